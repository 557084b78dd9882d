/- Fractions by powers of two are exact. -/
import Derived.Test.YtnhcoeogejgidabGreatDoorLm25
import Derived.Test.YtnhcoeogejgidabGreatDoorLp2
import Derived.Test.YtnhcoeogejgidabGreatDoorLg
import Derived.Test.YtnhcoeogejgidabGreatDoorLp5
import Derived.Test.YtnhcoeogejgidabGreatDoorTabE
import Derived.Test.YtnhcoeogejgidabGreatDoorTab
import Derived.Test.YtnhcoeogejgidabGreatDoorLm22
import Derived.Test.YtnhcoeogejgidabGreatDoorLk30
import Derived.Test.YtnhcoeogejgidabGreatDoorLm6
set_option linter.unusedVariables false
set_option linter.unusedSimpArgs false
namespace Go.Sx
open Go.Proofs
set_option maxRecDepth 100000

def powD (d : Nat) : Nat := 2 ^ (1 + d)
def exactD (n d : Nat) : Bool := FloatKind.f32.format.order (fmul .f32 (fdiv .f32 (FloatKind.f32.nearest (-(n : Int))) (FloatKind.f32.nearest (powD d : Int))) (FloatKind.f32.nearest (powD d : Int))) (fneg .f32 (FloatKind.f32.nearest (n : Int))) == some .eq
theorem exact_all : (List.range 256).all (fun n => (List.range 10).all fun d => exactD n d) = true := by decide +kernel
theorem exact_of {n d : Nat} (hn : n < 256) (hd : d < 10) : exactD n d = true :=
  List.all_eq_true.1 (List.all_eq_true.1 exact_all n (List.mem_range.2 hn)) d (List.mem_range.2 hd)
theorem shl_pow {d : Nat} (h : d < 10) : shlI .i64 1 (IntKind.u64.wrap (IntKind.i64.wrap ((1 : Int) + (d : Int)))) = ((powD d : Nat) : Int) ∧ 0 ≤ IntKind.u64.wrap (IntKind.i64.wrap ((1 : Int) + (d : Int))) ∧ 2 ≤ powD d ∧ powD d ≤ 1024 ∧ byOk (powD d) = true ∧ byOk (powD d + 1) = false := by
  have A : ∀ d : Fin 10, shlI .i64 1 (IntKind.u64.wrap (IntKind.i64.wrap ((1 : Int) + ((d.val : Nat) : Int)))) = ((powD d.val : Nat) : Int) ∧ 0 ≤ IntKind.u64.wrap (IntKind.i64.wrap ((1 : Int) + ((d.val : Nat) : Int))) ∧ 2 ≤ powD d.val ∧ powD d.val ≤ 1024 ∧ byOk (powD d.val) = true ∧ byOk (powD d.val + 1) = false := by decide +kernel
  exact A ⟨d, h⟩
theorem whole_dec6 {m : Nat} (h : m < 2000) : wholeL (Lib.decDigits m) = some m := by
  have A : ∀ m : Fin 2000, (Lib.decDigits m.val).length ≤ 6 := by decide +kernel
  exact whole_iff.2 ⟨rfl, A ⟨m, h⟩⟩
theorem dec_sign {m : Nat} : (Lib.decDigits m).head? ≠ some 45 := fun e => by
  cases h : Lib.decDigits m with
  | nil => rw [h] at e; cases e
  | cons x r =>
    rw [h] at e
    have : x = 45 := by injection e
    exact dec_no m (c := 45) (.inl (by decide)) x (by rw [h]; exact .head _) this
theorem frac_neg {n d : Nat} (hn : n < 256) (hd : d < 10) : fracL (45 :: Lib.decDigits n ++ 47 :: Lib.decDigits (powD d)) = some (fdiv .f32 (FloatKind.f32.nearest (-(n : Int))) (FloatKind.f32.nearest (powD d : Int))) := by
  obtain ⟨_, _, h1, h2, h3, _⟩ := shl_pow hd
  unfold fracL
  rw [cut_pre (a := 45 :: Lib.decDigits n) (fun x hx => by
    rcases List.mem_cons.1 hx with rfl | hx
    · decide
    · exact dec_no n (c := 47) (.inl (by decide)) x hx), cut_none (fun x hx => dec_no _ (c := 47) (.inl (by decide)) x hx)]
  have e1 : signedL (45 :: Lib.decDigits n) = some (-(n : Int)) := by
    unfold signedL
    rw [if_pos (by rfl), show (45 :: Lib.decDigits n).tail = Lib.decDigits n from rfl, whole_dec6 (by omega)]; rfl
  show (signedL (45 :: Lib.decDigits n)).bind _ = _
  rw [e1]
  show (wholeL (Lib.decDigits (powD d))).bind _ = _
  rw [whole_dec6 (by omega)]
  show (if byOk (powD d) = true then _ else none) = _
  rw [if_pos h3]
theorem frac_odd {n d : Nat} (hn : n < 256) (hd : d < 10) : fracL (Lib.decDigits n ++ 47 :: Lib.decDigits (powD d + 1)) = none := by
  obtain ⟨_, _, h1, h2, _, h3⟩ := shl_pow hd
  unfold fracL
  rw [cut_pre (fun x hx => dec_no n (c := 47) (.inl (by decide)) x hx), cut_none (fun x hx => dec_no _ (c := 47) (.inl (by decide)) x hx)]
  have e1 : signedL (Lib.decDigits n) = some (n : Int) := by
    unfold signedL
    rw [if_neg dec_sign, whole_dec6 (by omega)]; rfl
  show (signedL (Lib.decDigits n)).bind _ = _
  rw [e1]
  show (wholeL (Lib.decDigits (powD d + 1))).bind _ = _
  rw [whole_dec6 (by omega)]
  show (if byOk (powD d + 1) = true then _ else none) = _
  rw [if_neg (by rw [h3]; decide)]
end Go.Sx
/- How Comb, Tap, Room lie in cells; their parts; given ones opened. -/
set_option linter.unusedVariables false
set_option linter.unusedSimpArgs false
namespace Go.Sx
open Go.Proofs
def rComb : Rep GComb := (Rep.seq rRing ((rF .f32))).via fun a => (a.Ring, a.Gain)
theorem foc_Comb_Ring : Foc rComb rRing 0 (fun a => a.Ring) (fun a b => { a with Ring := b }) := (Foc.via (f := fun a : GComb => (a.Ring, a.Gain)) (get' := fun a => a.Ring) (put' := fun a b => { a with Ring := b }) (Foc.fst (Foc.here rRing)) (fun _ => rfl) (fun _ _ => rfl)).at rfl
theorem foc_Comb_Gain : Foc rComb (rF .f32) 2 (fun a => a.Gain) (fun a b => { a with Gain := b }) := (Foc.via (f := fun a : GComb => (a.Ring, a.Gain)) (get' := fun a => a.Gain) (put' := fun a b => { a with Gain := b }) (Foc.snd (Foc.here (rF .f32))) (fun _ => rfl) (fun _ _ => rfl)).at rfl
instance lf_Comb_0 : FocC rComb 0 (rSl T_float32 (rF .f32)) (fun a => a.Ring.Samples) (fun a b => { a with Ring := { a.Ring with Samples := b } }) := ⟨Foc.at (foc_Comb_Ring.trans lf_Ring_0.f) rfl⟩
instance lf_Comb_1 : FocC rComb 1 (rI .i64) (fun a => a.Ring.At) (fun a b => { a with Ring := { a.Ring with At := b } }) := ⟨Foc.at (foc_Comb_Ring.trans lf_Ring_1.f) rfl⟩
instance lf_Comb_2 : FocC rComb 2 (rF .f32) (fun a => a.Gain) (fun a b => { a with Gain := b }) := ⟨Foc.at foc_Comb_Gain rfl⟩
end Go.Sx
/- Rooms: valid ones, as both programs tell them. -/
set_option linter.unusedVariables false
set_option linter.unusedSimpArgs false
namespace Go.Sx
open Go.Proofs
set_option maxRecDepth 100000

section
variable {h : Heap} {q : Addr}
/-- What a room is, told as the programs ask. -/
theorem room_ok (x : GRoom) : x.ok = (x.Early.okf && decide (x.Taps.length ≤ 6) && x.Combs.all GComb.ok && x.Loops.all GRing.okf && (x.Damps.all fun f => f.ok && f.Kind == 1) && (x.Taps.all fun t => t.ok x.Early.len) && allFin x.Gains && fin x.Dry && fin x.Wet) := rfl
end
end Go.Sx
/- Rooms that run: what a step asks for, and that it leaves it so; lists changed place by place. -/
set_option linter.unusedVariables false
set_option linter.unusedSimpArgs false
namespace Go.Sx
open Go.Proofs
/-- What a step of a room asks for. -/
structure GRoom.Runs (x : GRoom) : Prop where
  e : x.Early.ok = true
  t : ∀ t ∈ x.Taps, inR t.Back 1 x.Early.len = true
  c : ∀ c ∈ x.Combs, c.Ring.ok = true
  l : ∀ r ∈ x.Loops, r.ok = true
  c2 : x.Combs.length = 2
  l4 : x.Loops.length = 4
  d4 : x.Damps.length = 4
  g4 : x.Gains.length = 4
end Go.Sx
/- Rings that fall silent: the newest samples, how many of them are zero. -/
set_option linter.unusedVariables false
set_option linter.unusedSimpArgs false
namespace Go.Sx
open Go.Proofs
def isZ (a : Nat) : Bool := feq .f32 a 0
/-- The samples of a ring, the newest first. -/
def GRing.recent (r : GRing) : List Nat := (List.range r.Samples.length).map fun i : Nat => r.back ((i : Int) + 1)
/-- How many of the newest samples are zero. -/
def runL : List Nat → Nat
  | [] => 0
  | a :: l => if isZ a then runL l + 1 else 0
def GRing.quiet (r : GRing) : Nat := runL r.recent
end Go.Sx
/- Steps: rings read back, combs, four samples mixed; blocks written beside own data. -/
set_option linter.unusedVariables false
set_option linter.unusedSimpArgs false
namespace Go.Sx
open Go.Proofs
set_option maxRecDepth 100000
set_option maxHeartbeats 400000

section
variable {h0 h : Heap} {q : Addr} {F : Fr} {L : List Blk} {x a : Nat}
/-- What a step of a comb leaves. -/
def CStep (h0 h' : Heap) (q : Addr) (F : Fr) (L : List Blk) (c : GComb) (a : Nat) (u : Value) : Prop := (∃ y, u = .float .f32 y ∧ FW .f32 y (c.step a).2) ∧ Pt rComb h0 h' q F L (c.step a).1
theorem CStep.of {c c' : GComb} {b y : Nat} (e : c.step a = (c', b)) (hy : FW .f32 y b) (P : Pt rComb h0 h q F L c') : CStep h0 h q F L c a (.float .f32 y) := by
  unfold CStep
  rw [e]
  exact ⟨⟨y, rfl, hy⟩, P⟩
/-- Four samples answered. -/
def Four (h h' : Heap) (u : Value) (xs : List Nat) : Prop := ∃ cs : Array Value, u = .agg cs ∧ (rArr 4 (rF .f32)).rd h' cs.toList xs ∧ Ext h h'
theorem four_rd {y0 y1 y2 y3 a0 a1 a2 a3 : Nat} (h0 : FW .f32 y0 a0) (h1 : FW .f32 y1 a1) (h2 : FW .f32 y2 a2) (h3 : FW .f32 y3 a3) : (rArr 4 (rF .f32)).rd h [.float .f32 y0, .float .f32 y1, .float .f32 y2, .float .f32 y3] [a0, a1, a2, a3] :=
  ⟨rfl, [_], _, rfl, ⟨_, rfl, h0⟩, [_], _, rfl, ⟨_, rfl, h1⟩, [_], _, rfl, ⟨_, rfl, h2⟩, [_], _, rfl, ⟨_, rfl, h3⟩, rfl⟩
end
end Go.Sx
/- A room's step, as the program makes it. -/
set_option linter.unusedVariables false
set_option linter.unusedSimpArgs false
namespace Go.Sx
open Go.Proofs
set_option maxRecDepth 100000

/-- Four floats, wherever they lie. -/
def F4 (cs : Array Value) (xs : List Nat) : Prop := (rArr 4 (rF .f32)).rd #[] cs.toList xs
theorem F4.rd {cs : Array Value} {xs : List Nat} (R : F4 cs xs) (h : Heap) : (rArr 4 (rF .f32)).rd h cs.toList xs := ⟨R.1, rdsF_any R.2⟩
theorem F4.of {cs : Array Value} {xs : List Nat} {h : Heap} (R : (rArr 4 (rF .f32)).rd h cs.toList xs) : F4 cs xs := ⟨R.1, rdsF_any R.2⟩
theorem F4.size {cs : Array Value} {xs : List Nat} (R : F4 cs xs) : cs.size = 4 := rsz R rfl
def zeros4 : List Nat := [0, 0, 0, 0]
theorem F4.zero : F4 ⟨[.float .f32 0, .float .f32 0, .float .f32 0, .float .f32 0]⟩ zeros4 := four_rd fw0 fw0 fw0 fw0
section
variable {h0 h : Heap} {q : Addr} {F : Fr} {L : List Blk} {x a : Nat}
theorem Look.oF {g i : Nat} {cs : Array Value} {xs : List Nat} {K : Nat → Prop} (l : Look L g cs) (M : Mem h0 h L) (R : F4 cs xs) (hi : i < 4) (H : ∀ y, FW .f32 y xs[i]! → K y) : oF .f32 (cell h ((⟨g, 0, none⟩ : Addr).add (i * 1))) K :=
  ((M.rdp l (R.rd h)).elem (i := i) hi).oF1 H
section
variable (x : GRoom) (a : Nat)
def GRoom.c0 : GComb × Nat := x.Combs[0]!.step (fadd .f32 a x.early)
def GRoom.c1 : GComb × Nat := x.Combs[1]!.step (x.c0 a).2
def GRoom.fo (i : Nat) : Nat := x.Loops[i]!.old
def GRoom.fg (i : Nat) : GFilter × Nat := x.Damps[i]!.step (fmul .f32 x.Gains[i]! (x.fo i))
def GRoom.hs : List Nat := mixFour ((List.range 4).map fun i => (x.fg i).2)
def GRoom.fl (i : Nat) : GRing := x.Loops[i]!.push (kept (fadd .f32 (x.c1 a).2 x.hs[i]!))
def GRoom.s1 : GRoom := { x with Early := x.Early.push (kept a), Combs := [(x.c0 a).1, (x.c1 a).1] }
def GRoom.s2 (n : Nat) : GRoom := { x.s1 a with Damps := mapI (fun i => (x.fg i).1) x.Damps n }
def GRoom.s3 (n : Nat) : GRoom := { x.s2 a 4 with Loops := mapI (x.fl a) x.Loops n }
def GRoom.sv : Nat := fadd .f32 (fmul .f32 x.Dry a) (fmul .f32 x.Wet (fadd .f32 (fadd .f32 (x.fo 0) (x.fo 1)) (fadd .f32 (x.fo 2) (x.fo 3))))
end
end
end Go.Sx
/- What strings, bows, voices and players do, plain. -/
set_option linter.unusedVariables false
set_option linter.unusedSimpArgs false
namespace Go.Sx
def GString.step (x : GString) (a : Nat) : GString × Nat :=
  let o := x.Loop.old
  let t := x.Tune.step o
  let d := x.Damp.step t.2
  ({ x with Loop := x.Loop.push (kept (fadd .f32 (fmul .f32 d.2 x.Loss) a)), Tune := t.1, Damp := d.1 }, o)
def GString.silent (x : GString) : Bool := x.Loop.zero && x.Tune.still && x.Damp.still
def friction (s d : Nat) : Nat :=
  let w := fadd .f32 (fabs (fmul .f32 s d)) 1061158912
  let v := fmul .f32 w w
  let f := fdiv .f32 1065353216 (fmul .f32 v v)
  if fgt .f32 f 1065353216 then 1065353216 else f
def GBow.e (x : GBow) : GFilter × Nat := x.Damp.step x.Bridge.old
def GBow.u (x : GBow) : Nat := fneg .f32 (fmul .f32 x.Loss x.e.2)
def GBow.v (x : GBow) : Nat := fneg .f32 x.Neck.old
def GBow.d (x : GBow) (a : Nat) : Nat := fsub .f32 a (fadd .f32 x.u x.v)
def GBow.w (x : GBow) (a : Nat) : Nat := fmul .f32 (x.d a) (friction x.Slope (x.d a))
def GBow.step (x : GBow) (a : Nat) : GBow × Nat :=
  ({ x with Neck := x.Neck.push (kept (fadd .f32 x.u (x.w a))), Bridge := x.Bridge.push (kept (fadd .f32 x.v (x.w a))), Damp := x.e.1 }, x.Bridge.old)
def GBow.silent (x : GBow) : Bool := x.Neck.zero && x.Bridge.zero && x.Damp.still
def GPipe.silent (x : GPipe) : Bool := x.Right.all GRing.zero && x.Left.all GRing.zero && x.End.still
end Go.Sx
/- A 16 bit number as a float32 and back. -/
namespace Go.Sx
open Ieee
set_option linter.unusedVariables false
set_option linter.unusedSimpArgs false

theorem compare_mul {a b q : Int} (hq : 0 < q) : compare (a * q) (b * q) = compare a b := by
  rcases Int.lt_trichotomy a b with h | h | h
  · rw [compare_lt h, compare_lt (Int.mul_lt_mul_of_pos_right h hq)]
  · subst h; simp
  · rw [compare_gt h, compare_gt (Int.mul_lt_mul_of_pos_right h hq)]
theorem signed_add (s : Bool) (m u v : Nat) : signed s m (u + v) = signed s m u * ((2 ^ v : Nat) : Int) := by
  cases s
  · rw [signed_f, signed_f, Nat.pow_add, ← Nat.mul_assoc]; exact Int.natCast_mul _ _
  · rw [signed_t, signed_t, Nat.pow_add, ← Nat.mul_assoc, Int.neg_mul]; exact congrArg Neg.neg (Int.natCast_mul _ _)
/-- Numbers compared over any base that is low enough. -/
theorem order_base (s t : Bool) (m n : Nat) (i j b : Int) (hi : b ≤ i) (hj : b ≤ j) : (Datum.number s m i).order (.number t n j) = some (compare (signed s m (i - b).toNat) (signed t n (j - b).toNat)) := by
  rw [order_number]
  congr 1
  rw [show (i - b).toNat = (i - min i j).toNat + (min i j - b).toNat by omega, show (j - b).toNat = (j - min i j).toNat + (min i j - b).toNat by omega, signed_add, signed_add]
  exact (compare_mul (by exact_mod_cast Nat.two_pow_pos _)).symm
end Go.Sx
/- Floats between powers of two: rounding keeps such bounds. -/
set_option linter.unusedVariables false
set_option linter.unusedSimpArgs false
namespace Go.Sx
open Ieee

/-- m * 2 ^ p is at most 2 ^ j. -/
def VLE (m : Nat) (p j : Int) : Prop := m = 0 ∨ (p ≤ j ∧ m ≤ 2 ^ (j - p).toNat)
/-- m * 2 ^ p is at least 2 ^ i. -/
def VGE (m : Nat) (p i : Int) : Prop := m ≠ 0 ∧ 2 ^ (i - p).toNat ≤ m
theorem cut_bounds (way : Toward) (s : Bool) (n d : Nat) : n / 2 ^ min d (n.log2 + 2) ≤ way.cut s n d ∧ way.cut s n d ≤ n / 2 ^ min d (n.log2 + 2) + 1 ∧ (n % 2 ^ min d (n.log2 + 2) = 0 → way.cut s n d = n / 2 ^ min d (n.log2 + 2)) := by
  unfold Toward.cut
  dsimp only
  rw [Nat.shiftLeft_eq, Nat.one_mul]
  have hp := Nat.two_pow_pos (min d (n.log2 + 2))
  generalize 2 ^ min d (n.log2 + 2) = gap at hp
  refine ⟨Nat.le_add_right _ _, Nat.add_le_add_left (Bool.toNat_le _) _, fun h => ?_⟩
  rw [h]
  have h1 : decide (gap < 2 * 0) = false := by simp
  have h2 : (gap == 2 * 0) = false := by simp; omega
  cases way
  · show n / gap + (decide (gap < 2 * 0) || gap == 2 * 0 && n / gap % 2 == 1).toNat = _
    rw [h1, h2]; rfl
  · cases s <;> rfl
  · cases s <;> rfl
  · rfl
theorem lt_log (n : Nat) : n < 2 ^ (n.log2 + 2) := Nat.lt_of_lt_of_le Nat.lt_log2_self (Nat.pow_le_pow_right (by decide) (by omega))
theorem cut_le (way : Toward) (s : Bool) {n d X : Nat} (h : n ≤ X * 2 ^ d) : way.cut s n d ≤ X := by
  obtain ⟨h1, h2, h3⟩ := cut_bounds way s n d
  rcases Nat.le_total d (n.log2 + 2) with hd | hd
  · rw [Nat.min_eq_left hd] at h1 h2 h3
    have hp := Nat.two_pow_pos d
    generalize 2 ^ d = g at *
    by_cases hr : n % g = 0
    · rw [h3 hr]
      exact Nat.div_le_of_le_mul (by rw [Nat.mul_comm]; exact h)
    · have h4 := Nat.div_add_mod n g
      have h5 : n / g < X := by
        refine Nat.lt_of_mul_lt_mul_left (a := g) ?_
        rw [Nat.mul_comm g X]; omega
      omega
  · rw [Nat.min_eq_right hd] at h1 h2 h3
    have h4 := lt_log n
    rw [Nat.div_eq_of_lt h4] at h1 h2 h3
    rw [Nat.mod_eq_of_lt h4] at h3
    by_cases hn : n = 0
    · rw [h3 hn]; exact Nat.zero_le _
    · have : X ≠ 0 := fun e => by subst e; omega
      omega
theorem cut_ge (way : Toward) (s : Bool) {n d X : Nat} (h : X * 2 ^ d ≤ n) : X ≤ way.cut s n d := by
  obtain ⟨h1, h2, h3⟩ := cut_bounds way s n d
  rcases Nat.le_total d (n.log2 + 2) with hd | hd
  · rw [Nat.min_eq_left hd] at h1
    exact Nat.le_trans ((Nat.le_div_iff_mul_le (Nat.two_pow_pos d)).2 h) h1
  · have h4 := lt_log n
    have h5 : 2 ^ (n.log2 + 2) ≤ 2 ^ d := Nat.pow_le_pow_right (by decide) hd
    have : X = 0 := by
      cases X with
      | zero => rfl
      | succ X => rw [Nat.succ_mul] at h; omega
    omega
/-- A rung read. -/
theorem read_rung0 (f : Format) (s : Bool) {k q : Nat} (hk : k < 2 * f.binade) (h : q = 0 ∨ f.binade ≤ k) (ho : q * f.binade + k < f.infRung) : f.read (f.word s (q * f.binade + k)) = .number s k (f.leastPlace + q) := by
  have hbp : 0 < f.binade := Nat.two_pow_pos _
  have hinf := f.infRung_lt
  have hw : (f.word s (q * f.binade + k)) % f.signWeight = q * f.binade + k := by
    unfold Format.word
    split
    · rw [Nat.add_mod_left, Nat.mod_eq_of_lt (by omega)]
    · rw [Nat.mod_eq_of_lt (by omega)]
  have hn : (f.word s (q * f.binade + k) / f.signWeight % 2 == 1) = s := by
    have hsw : 0 < f.signWeight := Nat.two_pow_pos _
    unfold Format.word
    cases s
    · simp only [Bool.false_eq_true, if_false]
      rw [Nat.div_eq_of_lt (by omega)]; rfl
    · simp only [if_true]
      rw [Nat.add_div_left _ hsw, Nat.div_eq_of_lt (by omega)]; rfl
  unfold Format.read
  dsimp only
  rw [hw, hn]
  by_cases hb : f.binade ≤ k
  · have h7 : k / f.binade = 1 := by rw [Nat.div_eq_iff hbp]; omega
    have h5 : (q * f.binade + k) / f.binade = q + 1 := by
      rw [Nat.mul_comm, Nat.mul_add_div hbp, h7]
    have h6 : (q * f.binade + k) % f.binade = k - f.binade := by
      rw [Nat.mul_comm, Nat.mul_add_mod]
      have := Nat.div_add_mod k f.binade
      rw [h7] at this; omega
    rw [if_neg (by omega), if_pos ho, h5, h6, show f.binade + (k - f.binade) = k by omega]
    congr 1
  · rcases h with h | h
    · subst h
      simp only [Nat.zero_mul, Nat.zero_add] at ho ⊢
      rw [if_pos (by omega)]
      simp
    · omega
theorem read_rung (f : Format) (s : Bool) {k q : Nat} (hk : k ≤ 2 * f.binade) (h : q = 0 ∨ f.binade ≤ k) (ho : q * f.binade + k < f.infRung) :
    ∃ (m' : Nat) (p' : Int), f.read (f.word s (q * f.binade + k)) = .number s m' p' ∧ ((m' = k ∧ p' = f.leastPlace + q ∧ k < 2 * f.binade) ∨ (k = 2 * f.binade ∧ m' = f.binade ∧ p' = f.leastPlace + q + 1)) := by
  have hbp : 0 < f.binade := Nat.two_pow_pos _
  by_cases hc : k = 2 * f.binade
  · subst hc
    have e : q * f.binade + 2 * f.binade = (q + 1) * f.binade + f.binade := by rw [Nat.add_mul]; omega
    rw [e] at ho ⊢
    exact ⟨_, _, read_rung0 f s (by omega) (.inr (Nat.le_refl _)) ho, .inr ⟨rfl, rfl, by push_cast; omega⟩⟩
  · exact ⟨_, _, read_rung0 f s (by omega) h ho, .inl ⟨rfl, rfl, by omega⟩⟩
/-- A number rounded: bounds that are powers of two stay. -/
theorem nearest_read (f : Format) (s : Bool) {m : Nat} {p j : Int} (h0 : m ≠ 0) (hle : VLE m p j) (hj : f.leastPlace + f.fractionBits ≤ j) (ho : ((j - f.fractionBits - f.leastPlace).toNat + 3) * f.binade ≤ f.infRung) :
    ∃ (m' : Nat) (p' : Int), f.read (f.nearest s m p) = .number s m' p' ∧ VLE m' p' j ∧ m' < 2 * f.binade ∧ f.leastPlace ≤ p' ∧ p' ≤ j - f.fractionBits ∧ ∀ i, f.leastPlace + f.fractionBits ≤ i → VGE m p i → VGE m' p' i ∧ f.binade ≤ m' := by
  rcases hle with hle | ⟨hpj, hle⟩
  · exact absurd hle h0
  have a1 : m < 2 ^ (m.log2 + 1) := Nat.lt_log2_self
  have a2 : 2 ^ m.log2 ≤ m := Nat.log2_self_le h0
  have hlj : m.log2 ≤ (j - p).toNat := by
    have h1 : 2 ^ m.log2 ≤ 2 ^ (j - p).toNat := Nat.le_trans a2 hle
    exact (Nat.pow_le_pow_iff_right (by decide)).1 h1
  have hb : f.binade = 2 ^ f.fractionBits := rfl
  unfold Format.nearest
  rw [if_neg h0]
  dsimp only
  have hlast : ∃ last : Int, last = max (p + m.log2 - f.fractionBits) f.leastPlace := ⟨_, rfl⟩
  obtain ⟨last, hl⟩ := hlast
  rw [← hl, Nat.shiftLeft_eq]
  have hlj2 : last ≤ j - f.fractionBits := by omega
  generalize hF : f.fractionBits = F at *
  have powle : ∀ {x y : Nat}, x ≤ y → 2 ^ x ≤ 2 ^ y := fun h => Nat.pow_le_pow_right (by decide) h
  have k1 : Toward.even.cut s (m * 2 ^ (p - last).toNat) (last - p).toNat ≤ 2 * f.binade := by
    refine cut_le _ _ ?_
    rw [hb, show 2 * 2 ^ F = 2 ^ (F + 1) by rw [Nat.pow_succ]; omega, ← Nat.pow_add]
    refine Nat.le_trans (Nat.mul_le_mul_right _ (Nat.le_of_lt a1)) ?_
    rw [← Nat.pow_add]
    exact powle (by omega)
  have k2 : last = f.leastPlace ∨ f.binade ≤ Toward.even.cut s (m * 2 ^ (p - last).toNat) (last - p).toNat := by
    rcases Int.le_total (p + m.log2 - F) f.leastPlace with h3 | h3
    · exact .inl (by omega)
    · refine .inr (cut_ge _ _ ?_)
      rw [hb, ← Nat.pow_add]
      refine Nat.le_trans ?_ (Nat.mul_le_mul_right _ a2)
      rw [← Nat.pow_add]
      exact powle (by omega)
  have k3 : Toward.even.cut s (m * 2 ^ (p - last).toNat) (last - p).toNat ≤ 2 ^ (j - last).toNat := by
    refine cut_le _ _ ?_
    refine Nat.le_trans (Nat.mul_le_mul_right _ hle) ?_
    rw [← Nat.pow_add, ← Nat.pow_add]
    exact powle (by omega)
  have k4 : ∀ i, f.leastPlace + F ≤ i → VGE m p i → 2 ^ (i - last).toNat ≤ Toward.even.cut s (m * 2 ^ (p - last).toNat) (last - p).toNat ∧ f.binade ≤ Toward.even.cut s (m * 2 ^ (p - last).toNat) (last - p).toNat := by
    intro i hi hv
    have hv2 : (i - p).toNat ≤ m.log2 := by
      have h1 : 2 ^ (i - p).toNat < 2 ^ (m.log2 + 1) := Nat.lt_of_le_of_lt hv.2 a1
      have := (Nat.pow_lt_pow_iff_right (by decide : 1 < 2)).1 h1
      omega
    have hB : f.binade ≤ Toward.even.cut s (m * 2 ^ (p - last).toNat) (last - p).toNat := by
      rcases k2 with k2 | k2
      · refine cut_ge _ _ ?_
        rw [hb]
        rcases Int.le_total p i with h4 | h4
        · refine Nat.le_trans ?_ (Nat.mul_le_mul_right _ hv.2)
          rw [← Nat.pow_add, ← Nat.pow_add]
          exact powle (by omega)
        · refine Nat.le_trans ?_ (Nat.mul_le_mul_right _ (show 1 ≤ m by omega))
          rw [Nat.one_mul, ← Nat.pow_add]
          exact powle (by omega)
      · exact k2
    refine ⟨?_, hB⟩
    rcases Int.le_total last i with h3 | h3
    · refine cut_ge _ _ ?_
      rcases Int.le_total p i with h4 | h4
      · refine Nat.le_trans ?_ (Nat.mul_le_mul_right _ hv.2)
        rw [← Nat.pow_add, ← Nat.pow_add]
        exact powle (by omega)
      · refine Nat.le_trans ?_ (Nat.mul_le_mul_right _ (show 1 ≤ m by omega))
        rw [Nat.one_mul, ← Nat.pow_add]
        exact powle (by omega)
    · rw [show (i - last).toNat = 0 by omega, Nat.pow_zero]
      exact Nat.le_trans (Nat.two_pow_pos _) hB
  generalize Toward.even.cut s (m * 2 ^ (p - last).toNat) (last - p).toNat = k at *
  have hq : ((last - f.leastPlace).toNat : Int) = last - f.leastPlace := by omega
  have hbp : 0 < f.binade := Nat.two_pow_pos _
  have hlt : (last - f.leastPlace).toNat * f.binade + k < f.infRung := by
    have h1 : (last - f.leastPlace).toNat * f.binade ≤ (j - F - f.leastPlace).toNat * f.binade := Nat.mul_le_mul_right _ (by omega)
    rw [Nat.add_mul] at ho
    omega
  rw [Nat.min_eq_left (Nat.le_of_lt hlt)]
  obtain ⟨m', p', hr, hc⟩ := read_rung f s k1 (k2.imp (fun h => by omega) id) hlt
  refine ⟨m', p', hr, ?_⟩
  rcases hc with ⟨rfl, rfl, hc⟩ | ⟨rfl, rfl, rfl⟩
  · rw [hq, show f.leastPlace + (last - f.leastPlace) = last by omega]
    exact ⟨.inr ⟨by omega, k3⟩, hc, by omega, by omega, fun i hi hv => ⟨⟨by have := (k4 i hi hv).2; omega, (k4 i hi hv).1⟩, (k4 i hi hv).2⟩⟩
  · rw [hq, show f.leastPlace + (last - f.leastPlace) + 1 = last + 1 by omega]
    have hp2 : 2 * f.binade = 2 ^ (F + 1) := by rw [hb, Nat.pow_succ]; omega
    rw [hp2] at k3
    have h3 : F + 1 ≤ (j - last).toNat := (Nat.pow_le_pow_iff_right (by decide)).1 k3
    refine ⟨.inr ⟨by omega, ?_⟩, by omega, by omega, by omega, fun i hi hv => ⟨⟨by omega, ?_⟩, Nat.le_refl _⟩⟩
    · rw [hb]; exact powle (by omega)
    · have h4 := (k4 i hi hv).1
      rw [hp2] at h4
      have h5 : (i - last).toNat ≤ F + 1 := (Nat.pow_le_pow_iff_right (by decide)).1 h4
      rw [hb]; exact powle (by omega)
end Go.Sx
