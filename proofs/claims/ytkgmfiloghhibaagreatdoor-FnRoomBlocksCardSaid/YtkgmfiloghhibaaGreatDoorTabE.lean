/- The slice types of this seat's program: what their elements are. -/
import Derived.Test.YtkgmfiloghhibaaGreatDoorTab
import Derived.Test.YtkgmfiloghhibaaGreatDoorLg
import Derived.Test.YtkgmfiloghhibaaGreatDoorLp4
import Derived.Test.YtkgmfiloghhibaaGreatDoorLf2
namespace Go.Sx
open Go.Proofs
theorem E_sl_float32 : ElemT prg T_sl_float32 T_float32 1 4 := ⟨Tryz.underlying25, ⟨Tryz.t26, _, by kernel_rfl, rfl, by kernel_rfl, by kernel_rfl, by kernel_rfl⟩⟩
theorem E_sl_impl_Tap : ElemT prg T_sl_impl_Tap T_impl_Tap 2 16 := ⟨Tryz.underlying49, ⟨Tryz.t134, _, by kernel_rfl, rfl, by kernel_rfl, by kernel_rfl, by kernel_rfl⟩⟩
theorem E_sl_string : ElemT prg T_sl_string T_string 1 16 := ⟨Tryz.underlying81, ⟨Tryz.t9, _, by kernel_rfl, rfl, by kernel_rfl, by kernel_rfl, by kernel_rfl⟩⟩
theorem E_sl_p_impl_Ring : ElemT prg T_sl_p_impl_Ring T_p_impl_Ring 1 8 := ⟨Tryz.underlying96, ⟨Tryz.t98, _, by kernel_rfl, rfl, by kernel_rfl, by kernel_rfl, by kernel_rfl⟩⟩
end Go.Sx
/- How Ring, Filter lie in cells; their parts; given ones opened. -/
set_option linter.unusedVariables false
set_option linter.unusedSimpArgs false
namespace Go.Sx
open Go.Proofs
def rRing : Rep GRing := (Rep.seq (rSl T_float32 (rF .f32)) ((rI .i64))).via fun a => (a.Samples, a.At)
theorem sz_Ring : rRing.sz = 2 := rfl
theorem foc_Ring_Samples : Foc rRing (rSl T_float32 (rF .f32)) 0 (fun a => a.Samples) (fun a b => { a with Samples := b }) := (Foc.via (f := fun a : GRing => (a.Samples, a.At)) (get' := fun a => a.Samples) (put' := fun a b => { a with Samples := b }) (Foc.fst (Foc.here (rSl T_float32 (rF .f32)))) (fun _ => rfl) (fun _ _ => rfl)).at rfl
theorem foc_Ring_At : Foc rRing (rI .i64) 1 (fun a => a.At) (fun a b => { a with At := b }) := (Foc.via (f := fun a : GRing => (a.Samples, a.At)) (get' := fun a => a.At) (put' := fun a b => { a with At := b }) (Foc.snd (Foc.here (rI .i64))) (fun _ => rfl) (fun _ _ => rfl)).at rfl
def z_Ring : GRing := ⟨[], 0⟩
theorem zow_Ring : rRing.ow [] [Value.slice none 0 0, Value.int .i64 (0 : Int)] z_Ring := ⟨[], [], [Value.slice none 0 0], [Value.int .i64 (0 : Int)], rfl, rfl, ⟨none, 0, 0, rfl, SlO.nil⟩, ⟨rfl, rfl⟩⟩
instance lf_Ring_0 : FocC rRing 0 (rSl T_float32 (rF .f32)) (fun a => a.Samples) (fun a b => { a with Samples := b }) := ⟨Foc.at foc_Ring_Samples rfl⟩
instance lf_Ring_1 : FocC rRing 1 (rI .i64) (fun a => a.At) (fun a b => { a with At := b }) := ⟨Foc.at foc_Ring_At rfl⟩
def rFilter : Rep GFilter := (Rep.seq (rI .i64) (Rep.seq (rArr 3 (rF .f32)) ((rArr 2 (rF .f32))))).via fun a => (a.Kind, a.C, a.S)
theorem foc_Filter_Kind : Foc rFilter (rI .i64) 0 (fun a => a.Kind) (fun a b => { a with Kind := b }) := (Foc.via (f := fun a : GFilter => (a.Kind, a.C, a.S)) (get' := fun a => a.Kind) (put' := fun a b => { a with Kind := b }) (Foc.fst (Foc.here (rI .i64))) (fun _ => rfl) (fun _ _ => rfl)).at rfl
theorem foc_Filter_C : Foc rFilter (rArr 3 (rF .f32)) 1 (fun a => a.C) (fun a b => { a with C := b }) := (Foc.via (f := fun a : GFilter => (a.Kind, a.C, a.S)) (get' := fun a => a.C) (put' := fun a b => { a with C := b }) (Foc.snd (Foc.fst (Foc.here (rArr 3 (rF .f32))))) (fun _ => rfl) (fun _ _ => rfl)).at rfl
theorem foc_Filter_S : Foc rFilter (rArr 2 (rF .f32)) 4 (fun a => a.S) (fun a b => { a with S := b }) := (Foc.via (f := fun a : GFilter => (a.Kind, a.C, a.S)) (get' := fun a => a.S) (put' := fun a b => { a with S := b }) (Foc.snd (Foc.snd (Foc.here (rArr 2 (rF .f32))))) (fun _ => rfl) (fun _ _ => rfl)).at rfl
def z_Filter : GFilter := ⟨0, [0, 0, 0], [0, 0]⟩
theorem zow_Filter : rFilter.ow [] [Value.int .i64 (0 : Int), Value.float .f32 0, Value.float .f32 0, Value.float .f32 0, Value.float .f32 0, Value.float .f32 0] z_Filter := ⟨[], [], [Value.int .i64 (0 : Int)], [Value.float .f32 0, Value.float .f32 0, Value.float .f32 0, Value.float .f32 0, Value.float .f32 0], rfl, rfl, ⟨rfl, rfl⟩, ⟨[], [], [Value.float .f32 0, Value.float .f32 0, Value.float .f32 0], [Value.float .f32 0, Value.float .f32 0], rfl, rfl, ⟨rfl, ⟨[], [], [Value.float .f32 0], [Value.float .f32 0, Value.float .f32 0], rfl, rfl, ⟨rfl, 0, rfl, fw_c32 (by decide) (by decide)⟩, ⟨[], [], [Value.float .f32 0], [Value.float .f32 0], rfl, rfl, ⟨rfl, 0, rfl, fw_c32 (by decide) (by decide)⟩, ⟨[], [], [Value.float .f32 0], [], rfl, rfl, ⟨rfl, 0, rfl, fw_c32 (by decide) (by decide)⟩, ⟨rfl, rfl⟩⟩⟩⟩⟩, ⟨rfl, ⟨[], [], [Value.float .f32 0], [Value.float .f32 0], rfl, rfl, ⟨rfl, 0, rfl, fw_c32 (by decide) (by decide)⟩, ⟨[], [], [Value.float .f32 0], [], rfl, rfl, ⟨rfl, 0, rfl, fw_c32 (by decide) (by decide)⟩, ⟨rfl, rfl⟩⟩⟩⟩⟩⟩
instance lf_Filter_0 : FocC rFilter 0 (rI .i64) (fun a => a.Kind) (fun a b => { a with Kind := b }) := ⟨Foc.at foc_Filter_Kind rfl⟩
instance lf_Filter_1 : FocC rFilter 1 (rF .f32) (fun a => a.C[0]!) (fun a b => { a with C := a.C.set 0 b }) := ⟨Foc.at (foc_Filter_C.trans (Foc.arr (rF .f32) 0 (by decide))) rfl⟩
instance lf_Filter_2 : FocC rFilter 2 (rF .f32) (fun a => a.C[1]!) (fun a b => { a with C := a.C.set 1 b }) := ⟨Foc.at (foc_Filter_C.trans (Foc.arr (rF .f32) 1 (by decide))) rfl⟩
instance lf_Filter_3 : FocC rFilter 3 (rF .f32) (fun a => a.C[2]!) (fun a b => { a with C := a.C.set 2 b }) := ⟨Foc.at (foc_Filter_C.trans (Foc.arr (rF .f32) 2 (by decide))) rfl⟩
instance lf_Filter_4 : FocC rFilter 4 (rF .f32) (fun a => a.S[0]!) (fun a b => { a with S := a.S.set 0 b }) := ⟨Foc.at (foc_Filter_S.trans (Foc.arr (rF .f32) 0 (by decide))) rfl⟩
instance lf_Filter_5 : FocC rFilter 5 (rF .f32) (fun a => a.S[1]!) (fun a b => { a with S := a.S.set 1 b }) := ⟨Foc.at (foc_Filter_S.trans (Foc.arr (rF .f32) 1 (by decide))) rfl⟩
end Go.Sx
/- The absolute value of a float32 by way of float64: the same as the sign taken away. -/
set_option linter.unusedVariables false
set_option linter.unusedSimpArgs false
namespace Go.Sx
open Ieee

theorem nearest_keep (f : Format) (s : Bool) {m : Nat} {p : Int} (h : m ≠ 0) (hl : max (p + m.log2 - f.fractionBits) f.leastPlace = p) :
    f.nearest s m p = f.word s (min ((p - f.leastPlace).toNat * f.binade + m) f.infRung) := by
  unfold Format.nearest
  rw [if_neg h]
  dsimp only
  rw [hl]
  simp only [Int.sub_self, Int.toNat_zero, Nat.shiftLeft_zero, cut_zero]
theorem word_false (f : Format) (r : Nat) : f.word false r = r := by unfold Format.word; simp
/-- A float32 that is a number, written again without its sign. -/
theorem back32 {a m : Nat} {s : Bool} {e : Int} (h : FloatKind.f32.format.read a = .number s m e) : FloatKind.f32.format.nearest false m e = a % 2 ^ 31 ∧ (m = 0 → a % 2 ^ 31 = 0) := by
  obtain ⟨e1, e2, e3, e4⟩ := f32_consts
  have e5 : FloatKind.f32.format.signWeight = 2 ^ 31 := rfl
  unfold Format.read at h
  dsimp only at h
  rw [e5, e3, e4, e2] at h
  split at h
  · next hr =>
    simp only [Datum.number.injEq] at h
    obtain ⟨_, rfl, rfl⟩ := h
    refine ⟨?_, fun h => h⟩
    by_cases hz : a % 2 ^ 31 = 0
    · rw [hz, nearest_zero, word_false]
    · have hl : (a % 2 ^ 31).log2 < 23 := (Nat.log2_lt hz).2 hr
      rw [nearest_keep _ _ hz (by rw [e1, e2]; omega), e2, e3, e4, word_false]
      simp only [Int.sub_self, Int.toNat_zero, Nat.zero_mul, Nat.zero_add]
      omega
  · next hr =>
    split at h
    · next hr2 =>
      simp only [Datum.number.injEq] at h
      obtain ⟨_, rfl, rfl⟩ := h
      have hm : (2 ^ 23 + a % 2 ^ 31 % 2 ^ 23).log2 = 23 := by
        have h1 := (Nat.log2_lt (n := 2 ^ 23 + a % 2 ^ 31 % 2 ^ 23) (k := 24) (by omega)).2 (by omega)
        have h2 := (Nat.le_log2 (n := 2 ^ 23 + a % 2 ^ 31 % 2 ^ 23) (k := 23) (by omega)).2 (by omega)
        omega
      refine ⟨?_, fun h => by omega⟩
      rw [nearest_keep _ _ (by omega) (by rw [hm, e1, e2]; omega), e2, e3, e4, word_false]
      omega
    · split at h <;> cases h
def fabs (a : Nat) : Nat := cn .f32 (a % 2 ^ 31)
theorem word_mod (f : Format) (s : Bool) {r : Nat} (h : r < f.signWeight) : f.word s r % f.signWeight = r := by
  unfold Format.word
  split
  · rw [Nat.add_mod_left, Nat.mod_eq_of_lt h]
  · exact Nat.mod_eq_of_lt h
theorem near_mod (f : Format) (s : Bool) (m : Nat) (p : Int) : f.nearest s m p % f.signWeight = f.nearest false m p := by
  have key : ∀ r, r ≤ f.infRung → f.word s r % f.signWeight = f.word false r := fun r hr => by
    rw [word_mod f s (Nat.lt_of_le_of_lt hr f.infRung_lt), word_false]
  unfold Format.nearest
  split
  · exact key 0 (Nat.zero_le _)
  · exact key _ (Nat.min_le_right _ _)
theorem abs_wide {a : Nat} (h : nan .f32 a = false) : nan .f64 (wide a % 2 ^ 63) = false ∧ FloatKind.f32.encode (FloatKind.f64.decode (wide a % 2 ^ 63)) = a % 2 ^ 31 ∧ fits (wide a % 2 ^ 63) = true := by
  obtain ⟨e1, e2, e3, e4⟩ := f32_consts
  have w1 : FloatKind.f64.format.signWeight = 2 ^ 63 := rfl
  have w2 : FloatKind.f32.format.signWeight = 2 ^ 31 := rfl
  have hn : nan .f64 (wide a % 2 ^ 63) = nan .f64 (wide a) := nan_mod (by rw [w1, Nat.mod_mod])
  rw [wide_not_nan h] at hn
  refine ⟨hn, ?_⟩
  unfold wide
  cases e : FloatKind.f32.decode a with
  | nan s t => unfold nan at h; rw [show FloatKind.f32.format.read a = _ from e] at h; cases h
  | infinity s =>
    have h1 : FloatKind.f64.encode (Datum.infinity s) % 2 ^ 63 = FloatKind.f64.format.word false FloatKind.f64.format.infRung := by
      rw [← w1]; exact word_mod _ _ FloatKind.f64.format.infRung_lt
    rw [h1, show FloatKind.f64.decode (FloatKind.f64.format.word false FloatKind.f64.format.infRung) = .infinity false from inf64 false]
    have h2 : a % 2 ^ 31 = FloatKind.f32.format.infRung := by
      have e' : FloatKind.f32.format.read a = .infinity s := e
      unfold Format.read at e'
      dsimp only at e'
      rw [w2] at e'
      split at e'
      · cases e'
      · split at e'
        · cases e'
        · split at e'
          · next h3 => exact h3
          · cases e'
    refine ⟨by rw [h2]; show FloatKind.f32.format.word false FloatKind.f32.format.infRung = _; exact word_false _ _, ?_⟩
    unfold fits
    rw [show FloatKind.f64.decode (FloatKind.f64.format.word false FloatKind.f64.format.infRung) = .infinity false from inf64 false]
  | number s m i =>
    have e' : FloatKind.f32.format.read a = .number s m i := e
    obtain ⟨h1, h2, h3⟩ := read_single a e
    obtain ⟨b1, b2⟩ := back32 e'
    have h4 : FloatKind.f64.encode (Datum.number s m i) % 2 ^ 63 = FloatKind.f64.format.nearest false m i := by
      rw [← w1]; exact near_mod _ _ _ _
    rw [h4]
    have key : ∃ m' i', FloatKind.f64.decode (FloatKind.f64.format.nearest false m i) = .number false m' i' ∧ FloatKind.f32.format.nearest false m' i' = a % 2 ^ 31 := by
      by_cases hz : m = 0
      · subst hz
        refine ⟨0, -1074, ?_, ?_⟩
        · rw [nearest_zero]; exact zero64 false
        · rw [nearest_zero, b2 rfl, word_false]
      · refine ⟨_, _, read64 false hz h1 h2 (by omega), ?_⟩
        rw [← b1]
        have hl : m.log2 ≤ 23 := by
          have := (Nat.log2_lt hz (k := 24)).2 h1
          omega
        have := nearest_scale FloatKind.f32.format false m i (52 - m.log2)
        rw [show i + (m.log2 : Int) - 52 = i - ((52 - m.log2 : Nat) : Int) by omega]
        exact this
    obtain ⟨m', i', k1, k2⟩ := key
    have k3 : FloatKind.f32.encode (Datum.number false m' i') = a % 2 ^ 31 := k2
    refine ⟨by rw [k1, k3], ?_⟩
    unfold fits
    rw [k1]
    dsimp only
    rw [k3]
    have k4 : FloatKind.f32.decode (a % 2 ^ 31) = .number false m i ∨ ∃ x, FloatKind.f32.decode (a % 2 ^ 31) = x ∧ x.isInfinity = false := by
      right
      refine ⟨_, rfl, ?_⟩
      have e6 : FloatKind.f32.format.read a = .number s m i := e
      show (FloatKind.f32.format.read (a % 2 ^ 31)).isInfinity = false
      unfold Format.read at e6 ⊢
      dsimp only at e6 ⊢
      rw [w2] at e6 ⊢
      rw [Nat.mod_mod]
      split at e6
      · next g1 => rw [if_pos g1]; rfl
      · next g1 =>
        split at e6
        · next g2 => rw [if_neg g1, if_pos g2]; rfl
        · split at e6 <;> cases e6
    rcases k4 with k4 | ⟨x, k4, k5⟩
    · rw [k4]; rfl
    · rw [k4, k5]; rfl
/-- What float32(math.Abs(float64(a))) is. -/
theorem abs_fits (a : Nat) (ha : cn .f32 a = a) : fits (cn .f64 (wid a % 2 ^ 63)) = true ∧ nar (cn .f64 (wid a % 2 ^ 63)) = fabs a := by
  cases h : nan .f32 a with
  | true =>
    have h0 : a = qn .f32 := by rw [← ha]; unfold cn; rw [h]; rfl
    subst h0
    decide +kernel
  | false =>
    obtain ⟨h1, h2, h3⟩ := abs_wide h
    have h4 : wid a = wide a := by unfold wid cn; rw [wide_not_nan h]; rfl
    have h5 : cn .f64 (wide a % 2 ^ 63) = wide a % 2 ^ 63 := by unfold cn; rw [h1]; rfl
    rw [h4, h5]
    refine ⟨h3, ?_⟩
    unfold nar fabs
    rw [h1, h2]; rfl
end Go.Sx
/- What rings, filters, combs and rooms do, over lists of floats; a float is a word up to which NaN it is. -/
set_option linter.unusedVariables false
set_option linter.unusedSimpArgs false
namespace Go.Sx

def flt (k : FloatKind) (a b : Nat) : Bool := k.format.order a b == some .lt
def fgt (k : FloatKind) (a b : Nat) : Bool := k.format.order a b == some .gt
def fle (k : FloatKind) (a b : Nat) : Bool := k.format.order a b == some .lt || k.format.order a b == some .eq
def fge (k : FloatKind) (a b : Nat) : Bool := k.format.order a b == some .gt || k.format.order a b == some .eq
def feq (k : FloatKind) (a b : Nat) : Bool := k.format.order a b == some .eq
def inR (n low high : Int) : Bool := decide (low ≤ n) && decide (n ≤ high)
def fin (a : Nat) : Bool := feq .f32 (fsub .f32 a a) 0
def flush (a : Nat) : Nat := if flt .f32 (fabs a) 8388608 then 0 else a
def kept (a : Nat) : Nat := if fin a then flush a else 0
def GRing.len (r : GRing) : Int := r.Samples.length
def GRing.ok (r : GRing) : Bool := inR r.len 1 1024 && inR r.At 0 (r.len - 1)
def GRing.old (r : GRing) : Nat := r.Samples[r.At.toNat]!
def GRing.push (r : GRing) (a : Nat) : GRing := ⟨r.Samples.set r.At.toNat a, (r.At + 1) % r.len⟩
def GRing.back (r : GRing) (k : Int) : Nat := r.Samples[((r.At - k + r.len) % r.len).toNat]!
def allFin (l : List Nat) : Bool := l.all fin
def GRing.okf (r : GRing) : Bool := r.ok && allFin r.Samples
def GRing.mute (r : GRing) : GRing := ⟨List.replicate r.Samples.length 0, r.At⟩
def GRing.zero (r : GRing) : Bool := r.Samples.all fun a => feq .f32 a 0
def silence (n : Int) : GRing := ⟨List.replicate n.toNat 0, 0⟩
def usesC (k : Int) : Int := if k = 1 ∨ k = 2 then 2 else if k = 3 ∨ k = 5 then 1 else 3
def usesS (k : Int) : Int := if k = 1 ∨ k = 2 then 1 else 2
def used (l : List Nat) (n : Int) : Bool := (List.range l.length).all fun i => fin l[i]! && (decide ((i : Int) < n) || l[i]! == 0)
def GFilter.ok (f : GFilter) : Bool := inR f.Kind 1 5 && used f.C (usesC f.Kind) && used f.S (usesS f.Kind)
def GFilter.step (f : GFilter) (x : Nat) : GFilter × Nat :=
  if f.Kind = 1 then
    let y := fadd .f32 (fmul .f32 f.C[0]! x) (fmul .f32 f.C[1]! f.S[0]!)
    ({ f with S := f.S.set 0 (kept y) }, y)
  else if f.Kind = 2 then
    let y := fadd .f32 (fmul .f32 f.C[0]! x) (fmul .f32 f.C[1]! f.S[0]!)
    ({ f with S := f.S.set 0 (kept x) }, y)
  else if f.Kind = 3 then
    let y := fadd .f32 (fmul .f32 f.C[0]! (fsub .f32 x f.S[1]!)) f.S[0]!
    ({ f with S := (f.S.set 0 (kept x)).set 1 (kept y) }, y)
  else if f.Kind = 4 then
    let y := fsub .f32 (fsub .f32 (fmul .f32 f.C[0]! x) (fmul .f32 f.C[1]! f.S[0]!)) (fmul .f32 f.C[2]! f.S[1]!)
    ({ f with S := (f.S.set 0 (kept y)).set 1 (kept f.S[0]!) }, y)
  else
    let y := fadd .f32 (fsub .f32 x f.S[0]!) (fmul .f32 f.C[0]! f.S[1]!)
    ({ f with S := (f.S.set 0 (kept x)).set 1 (kept y) }, y)
def GFilter.still (f : GFilter) : Bool := feq .f32 f.S[0]! 0 && feq .f32 f.S[1]! 0
def GFilter.mute (f : GFilter) : GFilter := { f with S := [0, 0] }
def GComb.step (c : GComb) (x : Nat) : GComb × Nat :=
  let o := c.Ring.old
  let w := fadd .f32 x (fmul .f32 c.Gain o)
  ({ c with Ring := c.Ring.push (kept w) }, fsub .f32 o (fmul .f32 c.Gain w))
def GComb.ok (c : GComb) : Bool := c.Ring.okf && fin c.Gain
def half : Nat := 1056964608
def mixFour (x : List Nat) : List Nat :=
  let p := fadd .f32 x[0]! x[1]!
  let q := fsub .f32 x[0]! x[1]!
  let r := fadd .f32 x[2]! x[3]!
  let s := fsub .f32 x[2]! x[3]!
  [fmul .f32 half (fadd .f32 p r), fmul .f32 half (fadd .f32 q s), fmul .f32 half (fsub .f32 p r), fmul .f32 half (fsub .f32 q s)]
def GTap.ok (t : GTap) (n : Int) : Bool := inR t.Back 1 n && fin t.Gain
def GRoom.ok (x : GRoom) : Bool :=
  x.Early.okf && decide (x.Taps.length ≤ 6) && x.Combs.all GComb.ok && x.Loops.all GRing.okf && (x.Damps.all fun f => f.ok && f.Kind == 1) && (x.Taps.all fun t => t.ok x.Early.len) && allFin x.Gains && fin x.Dry && fin x.Wet
def GRoom.early (x : GRoom) : Nat :=
  match x.Taps with
  | [] => 0
  | t :: ts => ts.foldl (fun m t => fadd .f32 m (fmul .f32 t.Gain (x.Early.back t.Back))) (fmul .f32 t.Gain (x.Early.back t.Back))
/-- The four loops' step: what they made, what is made of it, the filters behind it. -/
def GRoom.step (x : GRoom) (a : Nat) : GRoom × Nat :=
  let m := x.early
  let c0 := x.Combs[0]!.step (fadd .f32 a m)
  let c1 := x.Combs[1]!.step c0.2
  let o := x.Loops.map GRing.old
  let g := (List.range 4).map fun i => x.Damps[i]!.step (fmul .f32 x.Gains[i]! o[i]!)
  let h := mixFour (g.map (·.2))
  ({ x with Early := x.Early.push (kept a), Combs := [c0.1, c1.1], Damps := g.map (·.1), Loops := (List.range 4).map fun i => x.Loops[i]!.push (kept (fadd .f32 c1.2 h[i]!)) },
    fadd .f32 (fmul .f32 x.Dry a) (fmul .f32 x.Wet (fadd .f32 (fadd .f32 o[0]! o[1]!) (fadd .f32 o[2]! o[3]!))))
def GRoom.play (x : GRoom) : List Nat → GRoom × List Nat
  | [] => (x, [])
  | a :: els => let y := x.step a; let r := y.1.play els; (r.1, y.2 :: r.2)
def GRoom.mute (x : GRoom) : GRoom := { x with Early := x.Early.mute, Combs := x.Combs.map (fun c => { c with Ring := c.Ring.mute }), Loops := x.Loops.map GRing.mute, Damps := x.Damps.map GFilter.mute }
def GRoom.zero (x : GRoom) : Bool := x.Early.zero && x.Combs.all (fun c => c.Ring.zero) && x.Loops.all GRing.zero && x.Damps.all GFilter.still
end Go.Sx
