/- Powers of two, sums, products and quotients between bounds, whole parts. -/
import Derived.Test.YtnhcoeogejgidabGreatDoorLm26
import Derived.Test.YtnhcoeogejgidabGreatDoorTabE
import Derived.Test.YtnhcoeogejgidabGreatDoorLr7
import Derived.Test.YtnhcoeogejgidabGreatDoorTab
import Derived.Test.YtnhcoeogejgidabGreatDoorLk30
import Derived.Test.YtnhcoeogejgidabGreatDoorLm22
import Derived.Test.YtnhcoeogejgidabGreatDoorLpx
set_option linter.unusedVariables false
set_option linter.unusedSimpArgs false
namespace Go.Sx
open Ieee

def pow2 (k : Int) : Nat := FloatKind.f64.format.nearest false 1 k
/-- Neither negative nor greater than a power of two. -/
def Up (k : FloatKind) (w : Nat) (j : Int) : Prop := ∃ (m : Nat) (p : Int), k.format.read w = .number false m p ∧ VLE m p j
/-- Between two powers of two, and normal. -/
def Btw (w : Nat) (i j : Int) : Prop := ∃ (m : Nat) (p : Int), FloatKind.f64.format.read w = .number false m p ∧ VLE m p j ∧ VGE m p i ∧ 2 ^ 52 ≤ m ∧ m < 2 ^ 53
theorem Btw.up {w : Nat} {i j : Int} (h : Btw w i j) : Up .f64 w j := by obtain ⟨m, p, h1, h2, _⟩ := h; exact ⟨m, p, h1, h2⟩
theorem VLE.mono {m : Nat} {p i j : Int} (h : VLE m p i) (hij : i ≤ j) : VLE m p j := by
  rcases h with h | ⟨h1, h2⟩
  · exact .inl h
  · exact .inr ⟨by omega, Nat.le_trans h2 (Nat.pow_le_pow_right (by decide) (by omega))⟩
theorem VLE.mul {m n : Nat} {p q i j : Int} (h : VLE m p i) (g : VLE n q j) : VLE (m * n) (p + q) (i + j) := by
  rcases h with h | ⟨h1, h2⟩
  · exact .inl (by rw [h, Nat.zero_mul])
  rcases g with g | ⟨g1, g2⟩
  · exact .inl (by rw [g, Nat.mul_zero])
  refine .inr ⟨by omega, ?_⟩
  have := Nat.mul_le_mul h2 g2
  rwa [← Nat.pow_add, show (i - p).toNat + (j - q).toNat = (i + j - (p + q)).toNat by omega] at this
end Go.Sx
/- math.Floor of a float32 that is not great; what is left. -/
set_option linter.unusedVariables false
set_option linter.unusedSimpArgs false
namespace Go.Sx
open Ieee

/-- math.Floor. -/
def flr (w : Nat) : Nat := FloatKind.f64.encode ((FloatKind.f64.decode w).integral .down)
/-- The whole part of a number that is not negative. -/
def whole (m : Nat) (e : Int) : Nat := (m <<< e.toNat) / 2 ^ (-e).toNat
end Go.Sx
/- Tunings' periods: plain; what TwoTo computes lies between bounds. -/
set_option linter.unusedVariables false
set_option linter.unusedSimpArgs false
namespace Go.Sx
open Ieee
def GTuning.centsOf (t : GTuning) (key : Int) : Nat := fadd .f32 (fmul .f32 t.Octave (FloatKind.f32.nearest (key / t.Degrees.length))) t.Degrees[(key % t.Degrees.length).toNat]!
/-- The polynomial of TwoTo. -/
def twoS (y : Nat) (s : Nat) (ms : List Nat) : Nat := ms.foldl (fun s (m : Nat) => fadd .f64 4607182418800017408 (fmul .f64 (fdiv .f64 y (FloatKind.f64.nearest ((m : Nat) : Int))) s)) s
def ms14 : List Nat := [14, 13, 12, 11, 10, 9, 8, 7, 6, 5, 4, 3, 2, 1]
def twoY (x : Nat) : Nat := fmul .f64 (fsub .f64 (wid x) (flr (wid x))) 4604418534313441775
def twoK (x : Nat) : Int := ((FloatKind.f64.decode (flr (wid x))).toInt .zero).getD 0
def twoM (x : Nat) : Nat := twoS (twoY x) 4607182418800017408 ms14
def inTwo (x : Nat) : Bool := inside x 3270508544 1123024896
/-- 2 to a power, nearly. -/
def twoTo (x : Nat) : Nat := nar (fmul .f64 (twoM x) (pow2 (twoK x)))

theorem number_cn {k : FloatKind} {w m : Nat} {s : Bool} {e : Int} (h : k.format.read w = .number s m e) : cn k w = w := by
  have : Sx.nan k w = false := by unfold Sx.nan; rw [h]; rfl
  unfold cn; rw [this, if_neg (by decide)]
end Go.Sx
/- Signs; whole parts of float32s; new bodies. -/
set_option linter.unusedVariables false
set_option linter.unusedSimpArgs false
namespace Go.Sx
open Ieee

/-- A number times 2 ^ B. -/
def sv (B : Nat) (m : Nat) (e : Int) : Nat := m * 2 ^ (e + (B : Int)).toNat
/-- At least a number that is not negative: what it is. -/
theorem ge_read {B : Nat} (hB : 1100 ≤ B) {x c n : Nat} {j : Int} (hc : FloatKind.f32.format.read c = .number false n j) (h : fge .f32 x c = true) :
    FloatKind.f32.format.read x = .infinity false ∨ ∃ s m e, FloatKind.f32.format.read x = .number s m e ∧ (s = true → m = 0) ∧ sv B n j ≤ sv B m e := by
  have hj := read_single c hc
  unfold fge at h
  cases e : FloatKind.f32.format.read x with
  | nan s t => rw [order_read e hc] at h; cases h
  | infinity s =>
    rw [order_read e hc] at h
    cases s
    · exact .inl rfl
    · cases h
  | number s m i =>
    have hs := read_single x e
    refine .inr ⟨s, m, i, rfl, ?_⟩
    rw [order_read e hc, order_base _ _ _ _ _ _ (-(B : Int)) (by omega) (by omega)] at h
    have ei : (i - -(B : Int)).toNat = (i + (B : Int)).toNat := by congr 1; omega
    have ej : (j - -(B : Int)).toNat = (j + (B : Int)).toNat := by congr 1; omega
    rw [ei, ej, signed_f] at h
    have hne : ¬ compare (signed s m (i + (B : Int)).toNat) ((n * 2 ^ (j + (B : Int)).toNat : Nat) : Int) = .lt := fun hc => by rw [hc] at h; cases h
    have hle := compare_ne_lt hne
    unfold sv
    cases s
    · rw [signed_f] at hle
      exact ⟨(fun h => nomatch h), Int.ofNat_le.1 hle⟩
    · rw [signed_t] at hle
      have hp := Nat.two_pow_pos (i + (B : Int)).toNat
      have : m * 2 ^ (i + (B : Int)).toNat = 0 := by omega
      have hm : m = 0 := (Nat.mul_eq_zero.1 this).resolve_right (by omega)
      exact ⟨fun _ => hm, by omega⟩
theorem le_read {B : Nat} (hB : 1100 ≤ B) {x c n m : Nat} {s : Bool} {j e : Int} (hc : FloatKind.f32.format.read c = .number false n j) (hx : FloatKind.f32.format.read x = .number s m e) (hs : s = true → m = 0) (h : fle .f32 x c = true) : sv B m e ≤ sv B n j := by
  have hj := read_single c hc
  have hi := read_single x hx
  unfold fle at h
  rw [order_read hx hc, order_base _ _ _ _ _ _ (-(B : Int)) (by omega) (by omega)] at h
  have ei : (e - -(B : Int)).toNat = (e + (B : Int)).toNat := by congr 1; omega
  have ej : (j - -(B : Int)).toNat = (j + (B : Int)).toNat := by congr 1; omega
  rw [ei, ej, signed_f] at h
  have hne : ¬ compare (signed s m (e + (B : Int)).toNat) ((n * 2 ^ (j + (B : Int)).toNat : Nat) : Int) = .gt := fun hc => by rw [hc] at h; cases h
  have hle := compare_ne_gt hne
  unfold sv
  cases s
  · rw [signed_f] at hle; exact Int.ofNat_le.1 hle
  · rw [hs rfl, Nat.zero_mul]; exact Nat.zero_le _
theorem inf_le {x c n : Nat} {j : Int} (hc : FloatKind.f32.format.read c = .number false n j) (hx : FloatKind.f32.format.read x = .infinity false) : fle .f32 x c = false := by
  unfold fle
  rw [order_read hx hc]; rfl
/-- A float32 between two numbers that are not negative. -/
theorem inside_read {B : Nat} (hB : 1100 ≤ B) {x c d n k : Nat} {j i : Int} (hc : FloatKind.f32.format.read c = .number false n j) (hd : FloatKind.f32.format.read d = .number false k i) (h : inside x c d = true) :
    ∃ s m e, FloatKind.f32.format.read x = .number s m e ∧ (s = true → m = 0) ∧ sv B n j ≤ sv B m e ∧ sv B m e ≤ sv B k i := by
  unfold inside at h
  rw [Bool.and_eq_true] at h
  rcases ge_read hB hc h.1 with hx | ⟨s, m, e, hx, hs, hl⟩
  · rw [inf_le hd hx] at h; cases h.2
  · exact ⟨s, m, e, hx, hs, hl, le_read hB hd hx hs h.2⟩
theorem sv_vle {B : Nat} (hB : 1100 ≤ B) {m : Nat} {e j : Int} (hm : m ≠ 0) (he : -(B : Int) ≤ e) (hj : -(B : Int) ≤ j) (h : sv B m e ≤ 2 ^ (j + (B : Int)).toNat) : VLE m e j := by
  unfold sv at h
  have h1 : 2 ^ (e + (B : Int)).toNat ≤ 2 ^ (j + (B : Int)).toNat := Nat.le_trans (Nat.le_mul_of_pos_left _ (by omega)) h
  have h2 : (e + (B : Int)).toNat ≤ (j + (B : Int)).toNat := (Nat.pow_le_pow_iff_right (by decide)).1 h1
  refine .inr ⟨by omega, ?_⟩
  rw [show (j + (B : Int)).toNat = (j - e).toNat + (e + (B : Int)).toNat by omega, Nat.pow_add] at h
  exact Nat.le_of_mul_le_mul_right h (Nat.two_pow_pos _)
/-- A float32's whole part, of one that is neither negative nor too great. -/
def floorN (a : Nat) : Nat := match FloatKind.f32.format.read a with | .number false m e => whole m e | _ => 0
end Go.Sx
/- Tunings: cents, powers of two, frequencies, periods. -/
set_option linter.unusedVariables false
set_option linter.unusedSimpArgs false
namespace Go.Sx
open Go.Proofs Ieee
set_option maxRecDepth 100000
set_option maxHeartbeats 1000000

abbrev S2 := Nat × Nat × Nat × Int
end Go.Sx
/- Tunings: cents, frequencies, periods. -/
set_option linter.unusedVariables false
set_option linter.unusedSimpArgs false
namespace Go.Sx
open Go.Proofs Ieee
set_option maxRecDepth 100000
set_option maxHeartbeats 1000000

def GTuning.turn (t : GTuning) (key : Int) : Nat := fdiv .f32 (t.centsOf key) 1150681088
def GTuning.hz (t : GTuning) (key : Int) : Nat := fmul .f32 t.Base (twoTo (t.turn key))
def GTuning.asked (t : GTuning) (key : Int) : Nat × Int := if t.ok then if inR key (-100) 100 then if inTwo (t.turn key) then (t.hz key, 0) else (0, 2) else (0, 2) else (0, 1)
def GTuning.period (t : GTuning) (key : Int) (rate : Nat) : Nat × Int := if (t.asked key).2 = 0 then if inside rate 1065353216 1232348160 then (fdiv .f32 rate (t.asked key).1, 0) else (0, 2) else (0, (t.asked key).2)
end Go.Sx
/- New strings. -/
set_option linter.unusedVariables false
set_option linter.unusedSimpArgs false
namespace Go.Sx
open Go.Proofs Ieee
set_option maxRecDepth 100000
set_option maxHeartbeats 1000000

def allpassFor (f : Nat) : GFilter := if inside f 0 1073741824 then ⟨3, [fdiv .f32 (fsub .f32 1065353216 f) (fadd .f32 1065353216 f), 0, 0], [0, 0]⟩ else z_Filter
def oneZero (m : Nat) : GFilter := ⟨2, [fsub .f32 1065353216 m, m, 0], [0, 0]⟩
def onePole (k : Nat) : GFilter := ⟨1, [fsub .f32 1065353216 k, k, 0], [0, 0]⟩
def strN (p m : Nat) : Nat := if flt .f32 (fsub .f32 (fsub .f32 p m) (FloatKind.f32.nearest ((floorN (fsub .f32 p m) : Nat) : Int))) 1048576000 then floorN (fsub .f32 p m) - 1 else floorN (fsub .f32 p m)
def strOf (p m l : Nat) : GString := { Loop := ⟨List.replicate (strN p m) 0, 0⟩, Tune := allpassFor (fsub .f32 (fsub .f32 p m) (FloatKind.f32.nearest ((strN p m : Nat) : Int))), Damp := oneZero m, Loss := l }
def newString (p m l : Nat) : GString × Int := if inside p 1077936128 1149239296 then if inside m 0 1056964608 then if inside l 0 1065353216 then (strOf p m l, 0) else (z_String, 2) else (z_String, 2) else (z_String, 2)
theorem c2 : FW .f32 1073741824 1073741824 := fw_c32 (by decide) (by decide)
theorem c3 : FW .f32 1077936128 1077936128 := fw_c32 (by decide) (by decide)
end Go.Sx
/- Strings plucked. -/
set_option linter.unusedVariables false
set_option linter.unusedSimpArgs false
namespace Go.Sx
open Go.Proofs Ieee
set_option maxRecDepth 100000
set_option maxHeartbeats 1000000

/-- Where the sample lies that is the i-th, the oldest being the first. -/
def turnAt (r : GRing) (i : Nat) : Nat := ((r.At + (i : Int)) % r.len).toNat
/-- A ring whose first i samples are changed. -/
def chg (f : Nat → Nat → Nat) (r : GRing) : Nat → GRing
  | 0 => r
  | i + 1 => ⟨(chg f r i).Samples.set (turnAt r i) (f i (chg f r i).Samples[turnAt r i]!), r.At⟩
theorem chg_at (f : Nat → Nat → Nat) (r : GRing) (i : Nat) : (chg f r i).At = r.At := by cases i <;> rfl
theorem chg_len (f : Nat → Nat → Nat) (r : GRing) : ∀ i, (chg f r i).Samples.length = r.Samples.length
  | 0 => rfl
  | i + 1 => by rw [chg, List.length_set]; exact chg_len f r i
def pluckD (n p f i : Nat) : Nat := fmul .f32 f (if flt .f32 (FloatKind.f32.nearest ((i : Nat) : Int)) p then fdiv .f32 (FloatKind.f32.nearest ((i : Nat) : Int)) p else fdiv .f32 (fsub .f32 n (FloatKind.f32.nearest ((i : Nat) : Int))) (fsub .f32 n p))
def pluckF (n p f i a : Nat) : Nat := fadd .f32 a (pluckD n p f i)
def GString.plucked (x : GString) (pl f : Nat) : GString := { x with Loop := chg (pluckF (FloatKind.f32.nearest ((x.Loop.Samples.length : Nat) : Int)) (fmul .f32 pl (FloatKind.f32.nearest ((x.Loop.Samples.length : Nat) : Int))) f) x.Loop x.Loop.Samples.length }
def GString.pluck (x : GString) (pl f : Nat) : GString × Int := if x.ok then if place pl then if fin f then (x.plucked pl f, 0) else (z_String, 2) else (z_String, 2) else (z_String, 1)
end Go.Sx
/- Whole parts of periods; new bows. -/
set_option linter.unusedVariables false
set_option linter.unusedSimpArgs false
namespace Go.Sx
open Go.Proofs Ieee
set_option maxRecDepth 100000
set_option maxHeartbeats 1000000

def floorZ (a : Nat) : Int := if flt .f32 a 1232348160 then ((floorN a : Nat) : Int) else 0
def bowN (p : Int) : Int := if p / 8 < 1 then 1 else p / 8
def bowOf (p : Int) (k l s : Nat) : GBow := { Neck := ⟨List.replicate (p - bowN p).toNat 0, 0⟩, Bridge := ⟨List.replicate (bowN p).toNat 0, 0⟩, Damp := onePole k, Slope := s, Loss := l }
def newBow (p : Int) (k l s : Nat) : GBow × Int := if inR p 2 1024 then if place k then if inside l 0 1065353216 then if fin s then (bowOf p k l s, 0) else (z_Bow, 2) else (z_Bow, 2) else (z_Bow, 2) else (z_Bow, 2)
end Go.Sx
/- New pipes of one section: the rule's. -/
set_option linter.unusedVariables false
set_option linter.unusedSimpArgs false
namespace Go.Sx
open Go.Proofs Ieee
set_option maxRecDepth 100000
set_option maxHeartbeats 2000000

def quietR (n : Int) : GRing := ⟨List.replicate n.toNat 0, 0⟩
def pipeOf (n : Int) (op : Bool) (k l : Nat) : GPipe := { Right := [quietR n], Left := [quietR n], Scatter := [], End := onePole k, Open := op, Loss := l, Rest := 1061158912, Slope := 3200253952 }
def pipeIf (ok : Bool) (n : Int) (op : Bool) (k l : Nat) : GPipe × Int := if ok && inR n 1 1024 then (pipeOf n op k l, 0) else (z_Pipe, 2)
def newPipe (n : Int) (op : Bool) (k l : Nat) : GPipe × Int := pipeIf (place k && inside l 0 1065353216) n op k l
end Go.Sx
