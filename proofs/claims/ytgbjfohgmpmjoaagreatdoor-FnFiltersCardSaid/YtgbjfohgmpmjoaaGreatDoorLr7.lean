/- How Voice, Player lie in cells; their parts; given ones opened. -/
import Derived.Test.YtgbjfohgmpmjoaaGreatDoorLg
import Derived.Test.YtgbjfohgmpmjoaaGreatDoorLp4
import Derived.Test.YtgbjfohgmpmjoaaGreatDoorLp7
import Derived.Test.YtgbjfohgmpmjoaaGreatDoorTabE
import Derived.Test.YtgbjfohgmpmjoaaGreatDoorLf8
import Derived.Test.YtgbjfohgmpmjoaaGreatDoorLr2
import Derived.Test.YtgbjfohgmpmjoaaGreatDoorLs1
import Derived.Test.YtgbjfohgmpmjoaaGreatDoorTab
set_option linter.unusedVariables false
set_option linter.unusedSimpArgs false
namespace Go.Sx
open Go.Proofs
def z_Voice : GVoice := ⟨0, 0, 0, false, 0, z_String, z_Pipe, z_Bow⟩
end Go.Sx
/- Data that are the same, told field by field. -/
set_option linter.unusedVariables false
set_option linter.unusedSimpArgs false
namespace Go.Sx
open Go.Proofs
set_option maxRecDepth 100000
set_option maxHeartbeats 1000000

/-- Whether two data are the same. -/
noncomputable def same {α : Type} (x y : α) : Bool := @decide (x = y) (Classical.propDecidable _)
section
variable {α : Type} {x y : α}
theorem same_iff : same x y = true ↔ x = y := by unfold same; exact @decide_eq_true_iff _ (Classical.propDecidable _)
theorem same_refl : same x x = true := same_iff.2 rfl
theorem same_ne (h : x ≠ y) : same x y = false := by
  rw [Bool.eq_false_iff]; intro e; exact h (same_iff.1 e)
theorem same_nat (a b : Nat) : (a == b) = same a b := by rw [Bool.eq_iff_iff, same_iff, beq_iff_eq]
variable {xs ys : List α}
theorem same_len (h : xs.length ≠ ys.length) : same xs ys = false := same_ne fun e => h (by rw [e])
variable [Inhabited α]
theorem same_at {i : Nat} (h : same xs[i]! ys[i]! = false) : same xs ys = false := same_ne fun e => by
  rw [e, same_refl] at h; cases h
theorem same_all (hl : xs.length = ys.length) (h : ∀ i, i < xs.length → same xs[i]! ys[i]! = true) : same xs ys = true := by
  rw [same_iff]
  apply List.ext_getElem hl
  intro i h1 h2
  have := same_iff.1 (h i h1)
  rwa [getElem!_pos xs i h1, getElem!_pos ys i h2] at this
end
theorem same_S2 {xs ys : List Nat} (h1 : xs.length = 2) (h2 : ys.length = 2) : same xs ys = ((xs[0]! == ys[0]!) && (xs[1]! == ys[1]!)) := by
  obtain ⟨a, b, rfl⟩ := is2 h1
  obtain ⟨c, d, rfl⟩ := is2 h2
  rw [Bool.eq_iff_iff]
  simp [same_iff]
theorem brN {b : Bool} {p q : Prop} (ht : b = false → p) (hf : b = true → q) : BIF (!b) p q := br (fun h => ht (nt h)) fun h => hf (nf h)
/-- A call that changes nothing, and what follows, from some earlier memory on. -/
theorem goE {P : Program} {f : FuncId} {args : Array Value} {v : Value} {h0 h : Heap} {K : Value → Heap → Prop} (E : Ext h0 h) (c : CALL P f args (fun u h' => u = v ∧ Ext h h') h) (H : ∀ h', Ext h0 h' → K v h') : CALL P f args K h :=
  c.mono fun u h' ⟨e, x⟩ => by subst e; exact H h' (E.trans x)
theorem goD {P : Program} {f : Value} {args : Array Value} {v : Value} {h0 h : Heap} {K : Value → Heap → Prop} (E : Ext h0 h) (c : CALLD P f args (fun u h' => u = v ∧ Ext h h') h) (H : ∀ h', Ext h0 h' → K v h') : CALLD P f args K h :=
  CALLD.mono (fun u h' ⟨e, x⟩ => by subst e; exact H h' (E.trans x)) c
theorem same_Filter (x y : GFilter) : same x y = ((x.Kind == y.Kind) && same x.C y.C && same x.S y.S) := by
  rw [Bool.eq_iff_iff]
  simp only [same_iff, Bool.and_eq_true, beq_iff_eq]
  cases x; cases y; simp [and_assoc]
end Go.Sx
/- Tunings and instruments: the rule's and the program's. -/
set_option linter.unusedVariables false
set_option linter.unusedSimpArgs false
namespace Go.Sx
open Go.Proofs
set_option maxRecDepth 100000
set_option maxHeartbeats 1000000

def degAt (t : GTuning) (i : Nat) : Bool := flt .f32 t.Degrees[i]! t.Octave && (i == 0 || fgt .f32 t.Degrees[i]! t.Degrees[i - 1]!)
def GTuning.ok (t : GTuning) : Bool := inside t.Base 1065353216 1184645120 && inside t.Octave 1065353216 1167458304 && inR t.Degrees.length 1 31 && (t.Degrees[0]! == 0) && (List.range t.Degrees.length).all (degAt t)
def place (a : Nat) : Bool := fge .f32 a 0 && flt .f32 a 1065353216
def GInstrument.ok (x : GInstrument) : Bool := nameOk x.Name && inside x.B 0 1065353216 &&
  if x.Kind = 1 then inside x.A 0 1056964608 && place x.C else if x.Kind = 2 then place x.A && (feq .f32 x.C 0 || feq .f32 x.C 1065353216) else if x.Kind = 3 then place x.A && fin x.C else false
section
variable {h : Heap} {x a : Nat}
theorem c1 : FW .f32 1065353216 1065353216 := fw_c32 (by decide) (by decide)
end
end Go.Sx
/- What functions of this seat's program compute, told in words (a predicate over heaps for each), and the proofs that the words are no more than the code's own weakest precondition. -/
namespace Go.Sx
open Go.Proofs
set_option linter.unusedVariables false
set_option maxRecDepth 100000

def math_Floor.S (x_0 : Nat) (Post : Value → Heap → Prop) (h : Heap) : Prop :=
    CALL prg f_math_archFloor #[.float .f64 x_0] (fun q1 h2 =>
    asF .f64 q1 fun r3 =>
    Post (.float .f64 r3) h2) h
noncomputable def math_Floor.code : Code := (Tryz.f138.body).getD .skip
theorem math_Floor.call {x_0 : Nat} {Post : Value → Heap → Prop} {h : Heap} (H : math_Floor.S x_0 Post h) : CALL prg f_math_Floor #[.float .f64 x_0] Post h :=
  fn_call tau_ok mixed (c := math_Floor.code) (Λ := lookL []) Tryz.func138 (by kernel_rfl) (by kernel_rfl)
    (Rq.free (by kernel_rfl))
    (Eq.mp (by kernel_rfl) H)

def math_Inf.S (sign_0 : Int) (Post : Value → Heap → Prop) (h : Heap) : Prop :=
    BIF ((decide ((0 : Int) ≤ sign_0))) (
    CALL prg f_math_Float64frombits #[.int .u64 (9218868437227405312 : Int)] (fun q1 h2 =>
    asF .f64 q1 fun r3 =>
    Post (.float .f64 r3) h2) h) (
    CALL prg f_math_Float64frombits #[.int .u64 (18442240474082181120 : Int)] (fun q4 h5 =>
    asF .f64 q4 fun r6 =>
    Post (.float .f64 r6) h5) h)
noncomputable def math_Inf.code : Code := (Tryz.f113.body).getD .skip
theorem math_Inf.call {sign_0 : Int} {Post : Value → Heap → Prop} {h : Heap} (H : math_Inf.S sign_0 Post h) : CALL prg f_math_Inf #[.int .i64 sign_0] Post h :=
  fn_call tau_ok mixed (c := math_Inf.code) (Λ := lookL []) Tryz.func113 (by kernel_rfl) (by kernel_rfl)
    (Rq.free (by kernel_rfl))
    (Eq.mp (by kernel_rfl) H)

end Go.Sx
/- math.Floor; powers of two by way of bits. -/
set_option linter.unusedVariables false
set_option linter.unusedSimpArgs false
namespace Go.Sx
open Go.Proofs Ieee
set_option maxRecDepth 100000
set_option maxHeartbeats 1000000

theorem flr_plain {x : Nat} (nm : String) (hx : nan .f64 x = false) : Extern.MathFloor.toIntegral nm .down #[.float .f64 x] = pure (.float .f64 (flr x)) := by
  have h' : (FloatKind.f64.decode x).isNaN = false := hx
  show (match FloatKind.f64.decode x with | .nan s t => _ | d => _) = _
  unfold flr
  cases e : FloatKind.f64.decode x with
  | nan s t => rw [e] at h'; cases h'
  | number s m p => rfl
  | infinity s => rfl
theorem Floor_c {x : Nat} (hx : nan .f64 x = false) : Ret prg f_math_Floor #[.float .f64 x] (.float .f64 (flr x)) := fun h => by
  have c : Ret prg f_math_archFloor #[.float .f64 x] (.float .f64 (flr x)) :=
    ext_ret (e := Extern.MathFloor.toIntegral "math.archFloor" .down) X_math_archFloor (by kernel_rfl) (by kernel_rfl) (by kernel_rfl) (by kernel_rfl) fun w => by rw [flr_plain _ hx, Sem.run_pure]
  exact math_Floor.call (c.go fun h1 x1 => as_f ⟨rfl, x1⟩)
end Go.Sx
/- Tunings: cents, powers of two, frequencies, periods. -/
set_option linter.unusedVariables false
set_option linter.unusedSimpArgs false
namespace Go.Sx
open Go.Proofs Ieee
set_option maxRecDepth 100000
set_option maxHeartbeats 1000000

abbrev S2 := Nat × Nat × Nat × Int
end Go.Sx
/- Lists of instruments: the names differ. -/
set_option linter.unusedVariables false
set_option linter.unusedSimpArgs false
namespace Go.Sx
open Go.Proofs
set_option maxRecDepth 100000
set_option maxHeartbeats 1000000

def instAt (xs : List GInstrument) (i : Nat) : Bool := xs[i]!.ok && (List.range i).all fun k => !decide (xs[k]!.Name = xs[i]!.Name)
def instOk (xs : List GInstrument) : Bool := (List.range xs.length).all (instAt xs)
/-- A function value that tells of each datum whether p holds. -/
def TellsR {α : Type} (P : Program) (r : Rep α) (h0 : Heap) (f : Value) (p : α → Bool) : Prop := ∀ (cs : Array Value) (x : α) h, Ext h0 h → r.rd h cs.toList x → CALLD P f #[.agg cs] (fun u h' => u = .bool (p x) ∧ Ext h h') h
/-- The first elements of a slice. -/
theorem SlR.pre {α : Type} {r : Rep α} {h : Heap} {b : Option Addr} {l c i : Nat} {xs : List α} (S : SlR r h b l c xs) (hi : i < l) (sz : Nat) : SlR r h (slA b c 0 sz) (i - 0) (c - 0) (xs.take i) := by
  obtain ⟨h1, h2, h3, ws, C, R⟩ := S
  obtain ⟨pre, mid, post, e1, rfl, _, R1, _⟩ := R.at (i := i) (by omega)
  have hb : slA b c 0 sz = b := by
    unfold slA
    split
    · rfl
    · cases b with
      | none => rfl
      | some a => rw [Option.map_some, Nat.zero_mul, add0]
  refine ⟨by rw [List.length_take]; omega, by omega, h3, pre, fun k hk => ?_, R1⟩
  rw [hb]
  obtain ⟨a, ha, e⟩ := C k (by rw [List.length_append]; omega)
  exact ⟨a, ha, by rw [e, List.getElem?_append_left hk]⟩
end Go.Sx
/- The program: which events are good, which scores. -/
set_option linter.unusedVariables false
set_option linter.unusedSimpArgs false
namespace Go.Sx
open Go.Proofs
set_option maxRecDepth 100000
set_option maxHeartbeats 2000000

noncomputable def GScore.ok (s : GScore) : Bool := inside s.Rate 1065353216 1232348160 && s.Tuning.ok && (decide (s.Instruments.length ≤ 6) && instOk s.Instruments) && evOk s.Events s.Instruments.length
end Go.Sx
/- Tunings: cents, frequencies, periods. -/
set_option linter.unusedVariables false
set_option linter.unusedSimpArgs false
namespace Go.Sx
open Go.Proofs Ieee
set_option maxRecDepth 100000
set_option maxHeartbeats 1000000

def GTuning.turn (t : GTuning) (key : Int) : Nat := fdiv .f32 (t.centsOf key) 1150681088
def GTuning.hz (t : GTuning) (key : Int) : Nat := fmul .f32 t.Base (twoTo (t.turn key))
def GTuning.asked (t : GTuning) (key : Int) : Nat × Int := if t.ok then if inR key (-100) 100 then if inTwo (t.turn key) then (t.hz key, 0) else (0, 2) else (0, 2) else (0, 1)
def GTuning.period (t : GTuning) (key : Int) (rate : Nat) : Nat × Int := if (t.asked key).2 = 0 then if inside rate 1065353216 1232348160 then (fdiv .f32 rate (t.asked key).1, 0) else (0, 2) else (0, (t.asked key).2)
end Go.Sx
/- What the laws have in common: values marked and compared among others. -/
set_option linter.unusedVariables false
set_option linter.unusedSimpArgs false
namespace Go.Sx
open Go.Proofs
set_option maxRecDepth 100000

theorem PairR.go {α : Type} {r : Rep α} {P : Program} {f : FuncId} {args : Array Value} {a : α} {code : Int} {hb h : Heap} {L : List Blk} {K : Value → Heap → Prop} (M : Mem hb h L) (c : CALL P f args (fun u h' => PairR r h h' u a code) h)
    (H : ∀ h' cs B, Mem hb h' (B ++ L) → r.ow B cs.toList a → cs.size = r.sz → K (.tuple ⟨[.agg cs, .int .i64 code]⟩) h') : CALL P f args K h :=
  c.mono fun u h' ⟨cs, B, e, O, N⟩ => by subst e; exact H h' cs B (M.join N) O (by simpa using r.olen O)
end Go.Sx
