/- Powers of two, sums, products and quotients between bounds, whole parts. -/
import Derived.Test.YtkgmfiloghhibaaGreatDoorLm6
import Derived.Test.YtkgmfiloghhibaaGreatDoorTabE
import Derived.Test.YtkgmfiloghhibaaGreatDoorK2
import Derived.Test.YtkgmfiloghhibaaGreatDoorLk1
import Derived.Test.YtkgmfiloghhibaaGreatDoorLp5
import Derived.Test.YtkgmfiloghhibaaGreatDoorTab
import Derived.Laws.Strings2
import Derived.Test.YtkgmfiloghhibaaGreatDoorLgn
set_option linter.unusedVariables false
set_option linter.unusedSimpArgs false
namespace Go.Sx
open Ieee

def pow2 (k : Int) : Nat := FloatKind.f64.format.nearest false 1 k
/-- Neither negative nor greater than a power of two. -/
def Up (k : FloatKind) (w : Nat) (j : Int) : Prop := ∃ (m : Nat) (p : Int), k.format.read w = .number false m p ∧ VLE m p j
/-- Between two powers of two, and normal. -/
def Btw (w : Nat) (i j : Int) : Prop := ∃ (m : Nat) (p : Int), FloatKind.f64.format.read w = .number false m p ∧ VLE m p j ∧ VGE m p i ∧ 2 ^ 52 ≤ m ∧ m < 2 ^ 53
theorem Btw.up {w : Nat} {i j : Int} (h : Btw w i j) : Up .f64 w j := by obtain ⟨m, p, h1, h2, _⟩ := h; exact ⟨m, p, h1, h2⟩
theorem VLE.mono {m : Nat} {p i j : Int} (h : VLE m p i) (hij : i ≤ j) : VLE m p j := by
  rcases h with h | ⟨h1, h2⟩
  · exact .inl h
  · exact .inr ⟨by omega, Nat.le_trans h2 (Nat.pow_le_pow_right (by decide) (by omega))⟩
theorem VLE.mul {m n : Nat} {p q i j : Int} (h : VLE m p i) (g : VLE n q j) : VLE (m * n) (p + q) (i + j) := by
  rcases h with h | ⟨h1, h2⟩
  · exact .inl (by rw [h, Nat.zero_mul])
  rcases g with g | ⟨g1, g2⟩
  · exact .inl (by rw [g, Nat.mul_zero])
  refine .inr ⟨by omega, ?_⟩
  have := Nat.mul_le_mul h2 g2
  rwa [← Nat.pow_add, show (i - p).toNat + (j - q).toNat = (i + j - (p + q)).toNat by omega] at this
end Go.Sx
/- math.Floor of a float32 that is not great; what is left. -/
set_option linter.unusedVariables false
set_option linter.unusedSimpArgs false
namespace Go.Sx
open Ieee

/-- math.Floor. -/
def flr (w : Nat) : Nat := FloatKind.f64.encode ((FloatKind.f64.decode w).integral .down)
/-- The whole part of a number that is not negative. -/
def whole (m : Nat) (e : Int) : Nat := (m <<< e.toNat) / 2 ^ (-e).toNat
end Go.Sx
/- Tunings' periods: plain; what TwoTo computes lies between bounds. -/
set_option linter.unusedVariables false
set_option linter.unusedSimpArgs false
namespace Go.Sx
open Ieee
def GTuning.centsOf (t : GTuning) (key : Int) : Nat := fadd .f32 (fmul .f32 t.Octave (FloatKind.f32.nearest (key / t.Degrees.length))) t.Degrees[(key % t.Degrees.length).toNat]!
/-- The polynomial of TwoTo. -/
def twoS (y : Nat) (s : Nat) (ms : List Nat) : Nat := ms.foldl (fun s (m : Nat) => fadd .f64 4607182418800017408 (fmul .f64 (fdiv .f64 y (FloatKind.f64.nearest ((m : Nat) : Int))) s)) s
def ms14 : List Nat := [14, 13, 12, 11, 10, 9, 8, 7, 6, 5, 4, 3, 2, 1]
def twoY (x : Nat) : Nat := fmul .f64 (fsub .f64 (wid x) (flr (wid x))) 4604418534313441775
def twoK (x : Nat) : Int := ((FloatKind.f64.decode (flr (wid x))).toInt .zero).getD 0
def twoM (x : Nat) : Nat := twoS (twoY x) 4607182418800017408 ms14
def inTwo (x : Nat) : Bool := inside x 3270508544 1123024896
/-- 2 to a power, nearly. -/
def twoTo (x : Nat) : Nat := nar (fmul .f64 (twoM x) (pow2 (twoK x)))

theorem number_cn {k : FloatKind} {w m : Nat} {s : Bool} {e : Int} (h : k.format.read w = .number s m e) : cn k w = w := by
  have : Sx.nan k w = false := by unfold Sx.nan; rw [h]; rfl
  unfold cn; rw [this, if_neg (by decide)]
end Go.Sx
/- Signs; whole parts of float32s; new bodies. -/
set_option linter.unusedVariables false
set_option linter.unusedSimpArgs false
namespace Go.Sx
open Ieee

/-- A number times 2 ^ B. -/
def sv (B : Nat) (m : Nat) (e : Int) : Nat := m * 2 ^ (e + (B : Int)).toNat
/-- At least a number that is not negative: what it is. -/
theorem ge_read {B : Nat} (hB : 1100 ≤ B) {x c n : Nat} {j : Int} (hc : FloatKind.f32.format.read c = .number false n j) (h : fge .f32 x c = true) :
    FloatKind.f32.format.read x = .infinity false ∨ ∃ s m e, FloatKind.f32.format.read x = .number s m e ∧ (s = true → m = 0) ∧ sv B n j ≤ sv B m e := by
  have hj := read_single c hc
  unfold fge at h
  cases e : FloatKind.f32.format.read x with
  | nan s t => rw [order_read e hc] at h; cases h
  | infinity s =>
    rw [order_read e hc] at h
    cases s
    · exact .inl rfl
    · cases h
  | number s m i =>
    have hs := read_single x e
    refine .inr ⟨s, m, i, rfl, ?_⟩
    rw [order_read e hc, order_base _ _ _ _ _ _ (-(B : Int)) (by omega) (by omega)] at h
    have ei : (i - -(B : Int)).toNat = (i + (B : Int)).toNat := by congr 1; omega
    have ej : (j - -(B : Int)).toNat = (j + (B : Int)).toNat := by congr 1; omega
    rw [ei, ej, signed_f] at h
    have hne : ¬ compare (signed s m (i + (B : Int)).toNat) ((n * 2 ^ (j + (B : Int)).toNat : Nat) : Int) = .lt := fun hc => by rw [hc] at h; cases h
    have hle := compare_ne_lt hne
    unfold sv
    cases s
    · rw [signed_f] at hle
      exact ⟨(fun h => nomatch h), Int.ofNat_le.1 hle⟩
    · rw [signed_t] at hle
      have hp := Nat.two_pow_pos (i + (B : Int)).toNat
      have : m * 2 ^ (i + (B : Int)).toNat = 0 := by omega
      have hm : m = 0 := (Nat.mul_eq_zero.1 this).resolve_right (by omega)
      exact ⟨fun _ => hm, by omega⟩
theorem le_read {B : Nat} (hB : 1100 ≤ B) {x c n m : Nat} {s : Bool} {j e : Int} (hc : FloatKind.f32.format.read c = .number false n j) (hx : FloatKind.f32.format.read x = .number s m e) (hs : s = true → m = 0) (h : fle .f32 x c = true) : sv B m e ≤ sv B n j := by
  have hj := read_single c hc
  have hi := read_single x hx
  unfold fle at h
  rw [order_read hx hc, order_base _ _ _ _ _ _ (-(B : Int)) (by omega) (by omega)] at h
  have ei : (e - -(B : Int)).toNat = (e + (B : Int)).toNat := by congr 1; omega
  have ej : (j - -(B : Int)).toNat = (j + (B : Int)).toNat := by congr 1; omega
  rw [ei, ej, signed_f] at h
  have hne : ¬ compare (signed s m (e + (B : Int)).toNat) ((n * 2 ^ (j + (B : Int)).toNat : Nat) : Int) = .gt := fun hc => by rw [hc] at h; cases h
  have hle := compare_ne_gt hne
  unfold sv
  cases s
  · rw [signed_f] at hle; exact Int.ofNat_le.1 hle
  · rw [hs rfl, Nat.zero_mul]; exact Nat.zero_le _
theorem inf_le {x c n : Nat} {j : Int} (hc : FloatKind.f32.format.read c = .number false n j) (hx : FloatKind.f32.format.read x = .infinity false) : fle .f32 x c = false := by
  unfold fle
  rw [order_read hx hc]; rfl
/-- A float32 between two numbers that are not negative. -/
theorem inside_read {B : Nat} (hB : 1100 ≤ B) {x c d n k : Nat} {j i : Int} (hc : FloatKind.f32.format.read c = .number false n j) (hd : FloatKind.f32.format.read d = .number false k i) (h : inside x c d = true) :
    ∃ s m e, FloatKind.f32.format.read x = .number s m e ∧ (s = true → m = 0) ∧ sv B n j ≤ sv B m e ∧ sv B m e ≤ sv B k i := by
  unfold inside at h
  rw [Bool.and_eq_true] at h
  rcases ge_read hB hc h.1 with hx | ⟨s, m, e, hx, hs, hl⟩
  · rw [inf_le hd hx] at h; cases h.2
  · exact ⟨s, m, e, hx, hs, hl, le_read hB hd hx hs h.2⟩
theorem sv_vle {B : Nat} (hB : 1100 ≤ B) {m : Nat} {e j : Int} (hm : m ≠ 0) (he : -(B : Int) ≤ e) (hj : -(B : Int) ≤ j) (h : sv B m e ≤ 2 ^ (j + (B : Int)).toNat) : VLE m e j := by
  unfold sv at h
  have h1 : 2 ^ (e + (B : Int)).toNat ≤ 2 ^ (j + (B : Int)).toNat := Nat.le_trans (Nat.le_mul_of_pos_left _ (by omega)) h
  have h2 : (e + (B : Int)).toNat ≤ (j + (B : Int)).toNat := (Nat.pow_le_pow_iff_right (by decide)).1 h1
  refine .inr ⟨by omega, ?_⟩
  rw [show (j + (B : Int)).toNat = (j - e).toNat + (e + (B : Int)).toNat by omega, Nat.pow_add] at h
  exact Nat.le_of_mul_le_mul_right h (Nat.two_pow_pos _)
/-- A float32's whole part, of one that is neither negative nor too great. -/
def floorN (a : Nat) : Nat := match FloatKind.f32.format.read a with | .number false m e => whole m e | _ => 0
end Go.Sx
/- Names: the rule's and the program's; what is left of a text when letters are cut off at both ends. -/
set_option linter.unusedVariables false
set_option linter.unusedSimpArgs false
namespace Go.Sx
open Go.Proofs
set_option maxRecDepth 100000
set_option maxHeartbeats 1000000

def letter (n : Int) : Bool := decide (97 ≤ n) && decide (n ≤ 122)
def allL (s : ByteArray) : Bool := (List.range s.size).all fun i => letter (byteAt s (i : Int))
def nameOk (s : ByteArray) : Bool := inR s.size 1 12 && allL s
end Go.Sx
/- Data that are the same, told field by field. -/
set_option linter.unusedVariables false
set_option linter.unusedSimpArgs false
namespace Go.Sx
open Go.Proofs
set_option maxRecDepth 100000
set_option maxHeartbeats 1000000

/-- Whether two data are the same. -/
noncomputable def same {α : Type} (x y : α) : Bool := @decide (x = y) (Classical.propDecidable _)
section
variable {α : Type} {x y : α}
theorem same_iff : same x y = true ↔ x = y := by unfold same; exact @decide_eq_true_iff _ (Classical.propDecidable _)
theorem same_refl : same x x = true := same_iff.2 rfl
theorem same_ne (h : x ≠ y) : same x y = false := by
  rw [Bool.eq_false_iff]; intro e; exact h (same_iff.1 e)
theorem same_nat (a b : Nat) : (a == b) = same a b := by rw [Bool.eq_iff_iff, same_iff, beq_iff_eq]
variable {xs ys : List α}
theorem same_len (h : xs.length ≠ ys.length) : same xs ys = false := same_ne fun e => h (by rw [e])
variable [Inhabited α]
theorem same_at {i : Nat} (h : same xs[i]! ys[i]! = false) : same xs ys = false := same_ne fun e => by
  rw [e, same_refl] at h; cases h
theorem same_all (hl : xs.length = ys.length) (h : ∀ i, i < xs.length → same xs[i]! ys[i]! = true) : same xs ys = true := by
  rw [same_iff]
  apply List.ext_getElem hl
  intro i h1 h2
  have := same_iff.1 (h i h1)
  rwa [getElem!_pos xs i h1, getElem!_pos ys i h2] at this
end
theorem same_S2 {xs ys : List Nat} (h1 : xs.length = 2) (h2 : ys.length = 2) : same xs ys = ((xs[0]! == ys[0]!) && (xs[1]! == ys[1]!)) := by
  obtain ⟨a, b, rfl⟩ := is2 h1
  obtain ⟨c, d, rfl⟩ := is2 h2
  rw [Bool.eq_iff_iff]
  simp [same_iff]
theorem brN {b : Bool} {p q : Prop} (ht : b = false → p) (hf : b = true → q) : BIF (!b) p q := br (fun h => ht (nt h)) fun h => hf (nf h)
/-- A function value that tells of two data whether they are the same. -/
def Tells2 {α : Type} (P : Program) (r : Rep α) (f : Value) : Prop := ∀ (ca cb : Array Value) (x y : α) h, r.rd h ca.toList x → r.rd h cb.toList y → CALLD P f #[.agg ca, .agg cb] (fun u h' => u = .bool (same x y) ∧ Ext h h') h
/-- A call that changes nothing, and what follows, from some earlier memory on. -/
theorem goE {P : Program} {f : FuncId} {args : Array Value} {v : Value} {h0 h : Heap} {K : Value → Heap → Prop} (E : Ext h0 h) (c : CALL P f args (fun u h' => u = v ∧ Ext h h') h) (H : ∀ h', Ext h0 h' → K v h') : CALL P f args K h :=
  c.mono fun u h' ⟨e, x⟩ => by subst e; exact H h' (E.trans x)
theorem goD {P : Program} {f : Value} {args : Array Value} {v : Value} {h0 h : Heap} {K : Value → Heap → Prop} (E : Ext h0 h) (c : CALLD P f args (fun u h' => u = v ∧ Ext h h') h) (H : ∀ h', Ext h0 h' → K v h') : CALLD P f args K h :=
  CALLD.mono (fun u h' ⟨e, x⟩ => by subst e; exact H h' (E.trans x)) c
theorem same_Ring (x y : GRing) : same x y = (same x.Samples y.Samples && (x.At == y.At)) := by
  rw [Bool.eq_iff_iff]
  simp only [same_iff, Bool.and_eq_true, beq_iff_eq]
  cases x; cases y; simp [and_assoc]
theorem same_Filter (x y : GFilter) : same x y = ((x.Kind == y.Kind) && same x.C y.C && same x.S y.S) := by
  rw [Bool.eq_iff_iff]
  simp only [same_iff, Bool.and_eq_true, beq_iff_eq]
  cases x; cases y; simp [and_assoc]
theorem same_Pipe (x y : GPipe) : same x y = (same x.Right y.Right && same x.Left y.Left && same x.Scatter y.Scatter && same x.End y.End && (x.Open == y.Open) && (x.Loss == y.Loss) && (x.Rest == y.Rest) && (x.Slope == y.Slope)) := by
  rw [Bool.eq_iff_iff]
  simp only [same_iff, Bool.and_eq_true, beq_iff_eq]
  cases x; cases y; simp [and_assoc]
end Go.Sx
/- Tunings and instruments: the rule's and the program's. -/
set_option linter.unusedVariables false
set_option linter.unusedSimpArgs false
namespace Go.Sx
open Go.Proofs
set_option maxRecDepth 100000
set_option maxHeartbeats 1000000

def degAt (t : GTuning) (i : Nat) : Bool := flt .f32 t.Degrees[i]! t.Octave && (i == 0 || fgt .f32 t.Degrees[i]! t.Degrees[i - 1]!)
def GTuning.ok (t : GTuning) : Bool := inside t.Base 1065353216 1184645120 && inside t.Octave 1065353216 1167458304 && inR t.Degrees.length 1 31 && (t.Degrees[0]! == 0) && (List.range t.Degrees.length).all (degAt t)
def place (a : Nat) : Bool := fge .f32 a 0 && flt .f32 a 1065353216
def GInstrument.ok (x : GInstrument) : Bool := nameOk x.Name && inside x.B 0 1065353216 &&
  if x.Kind = 1 then inside x.A 0 1056964608 && place x.C else if x.Kind = 2 then place x.A && (feq .f32 x.C 0 || feq .f32 x.C 1065353216) else if x.Kind = 3 then place x.A && fin x.C else false
section
variable {h : Heap} {x a : Nat}
theorem c1 : FW .f32 1065353216 1065353216 := fw_c32 (by decide) (by decide)
theorem cR : FW .f32 1232348160 1232348160 := fw_c32 (by decide) (by decide)
end
end Go.Sx
/- Tunings: cents, powers of two, frequencies, periods. -/
set_option linter.unusedVariables false
set_option linter.unusedSimpArgs false
namespace Go.Sx
open Go.Proofs Ieee
set_option maxRecDepth 100000
set_option maxHeartbeats 1000000

abbrev S2 := Nat × Nat × Nat × Int
end Go.Sx
/- Lists of instruments: the names differ. -/
set_option linter.unusedVariables false
set_option linter.unusedSimpArgs false
namespace Go.Sx
open Go.Proofs
set_option maxRecDepth 100000
set_option maxHeartbeats 1000000

def instAt (xs : List GInstrument) (i : Nat) : Bool := xs[i]!.ok && (List.range i).all fun k => !decide (xs[k]!.Name = xs[i]!.Name)
def instOk (xs : List GInstrument) : Bool := (List.range xs.length).all (instAt xs)
/-- The first elements of a slice. -/
theorem SlR.pre {α : Type} {r : Rep α} {h : Heap} {b : Option Addr} {l c i : Nat} {xs : List α} (S : SlR r h b l c xs) (hi : i < l) (sz : Nat) : SlR r h (slA b c 0 sz) (i - 0) (c - 0) (xs.take i) := by
  obtain ⟨h1, h2, h3, ws, C, R⟩ := S
  obtain ⟨pre, mid, post, e1, rfl, _, R1, _⟩ := R.at (i := i) (by omega)
  have hb : slA b c 0 sz = b := by
    unfold slA
    split
    · rfl
    · cases b with
      | none => rfl
      | some a => rw [Option.map_some, Nat.zero_mul, add0]
  refine ⟨by rw [List.length_take]; omega, by omega, h3, pre, fun k hk => ?_, R1⟩
  rw [hb]
  obtain ⟨a, ha, e⟩ := C k (by rw [List.length_append]; omega)
  exact ⟨a, ha, by rw [e, List.getElem?_append_left hk]⟩
end Go.Sx
/- The program: which events are good, which scores. -/
set_option linter.unusedVariables false
set_option linter.unusedSimpArgs false
namespace Go.Sx
open Go.Proofs
set_option maxRecDepth 100000
set_option maxHeartbeats 2000000

noncomputable def GScore.ok (s : GScore) : Bool := inside s.Rate 1065353216 1232348160 && s.Tuning.ok && (decide (s.Instruments.length ≤ 6) && instOk s.Instruments) && evOk s.Events s.Instruments.length
end Go.Sx
/- Tunings: cents, frequencies, periods. -/
set_option linter.unusedVariables false
set_option linter.unusedSimpArgs false
namespace Go.Sx
open Go.Proofs Ieee
set_option maxRecDepth 100000
set_option maxHeartbeats 1000000

def GTuning.turn (t : GTuning) (key : Int) : Nat := fdiv .f32 (t.centsOf key) 1150681088
def GTuning.hz (t : GTuning) (key : Int) : Nat := fmul .f32 t.Base (twoTo (t.turn key))
def GTuning.asked (t : GTuning) (key : Int) : Nat × Int := if t.ok then if inR key (-100) 100 then if inTwo (t.turn key) then (t.hz key, 0) else (0, 2) else (0, 2) else (0, 1)
def GTuning.period (t : GTuning) (key : Int) (rate : Nat) : Nat × Int := if (t.asked key).2 = 0 then if inside rate 1065353216 1232348160 then (fdiv .f32 rate (t.asked key).1, 0) else (0, 2) else (0, (t.asked key).2)
end Go.Sx
