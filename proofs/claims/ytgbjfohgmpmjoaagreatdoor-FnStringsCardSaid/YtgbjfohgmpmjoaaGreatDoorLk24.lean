/- Names: the rule's and the program's; what is left of a text when letters are cut off at both ends. -/
import Derived.Test.YtgbjfohgmpmjoaaGreatDoorK2
import Derived.Test.YtgbjfohgmpmjoaaGreatDoorLk1
import Derived.Test.YtgbjfohgmpmjoaaGreatDoorLp6
import Derived.Test.YtgbjfohgmpmjoaaGreatDoorTab
import Derived.Laws.Strings2
import Derived.Test.YtgbjfohgmpmjoaaGreatDoorLk4
import Derived.Test.YtgbjfohgmpmjoaaGreatDoorLk13
import Derived.Test.YtgbjfohgmpmjoaaGreatDoorLf8
import Derived.Test.YtgbjfohgmpmjoaaGreatDoorLm6
set_option linter.unusedVariables false
set_option linter.unusedSimpArgs false
namespace Go.Sx
open Go.Proofs
set_option maxRecDepth 100000
set_option maxHeartbeats 1000000

def letter (n : Int) : Bool := decide (97 ≤ n) && decide (n ≤ 122)
def allL (s : ByteArray) : Bool := (List.range s.size).all fun i => letter (byteAt s (i : Int))
def nameOk (s : ByteArray) : Bool := inR s.size 1 12 && allL s
end Go.Sx
/- Data that are the same, told field by field. -/
set_option linter.unusedVariables false
set_option linter.unusedSimpArgs false
namespace Go.Sx
open Go.Proofs
set_option maxRecDepth 100000
set_option maxHeartbeats 1000000

/-- Whether two data are the same. -/
noncomputable def same {α : Type} (x y : α) : Bool := @decide (x = y) (Classical.propDecidable _)
section
variable {α : Type} {x y : α}
theorem same_iff : same x y = true ↔ x = y := by unfold same; exact @decide_eq_true_iff _ (Classical.propDecidable _)
theorem same_refl : same x x = true := same_iff.2 rfl
theorem same_ne (h : x ≠ y) : same x y = false := by
  rw [Bool.eq_false_iff]; intro e; exact h (same_iff.1 e)
theorem same_nat (a b : Nat) : (a == b) = same a b := by rw [Bool.eq_iff_iff, same_iff, beq_iff_eq]
variable {xs ys : List α}
theorem same_len (h : xs.length ≠ ys.length) : same xs ys = false := same_ne fun e => h (by rw [e])
variable [Inhabited α]
theorem same_at {i : Nat} (h : same xs[i]! ys[i]! = false) : same xs ys = false := same_ne fun e => by
  rw [e, same_refl] at h; cases h
theorem same_all (hl : xs.length = ys.length) (h : ∀ i, i < xs.length → same xs[i]! ys[i]! = true) : same xs ys = true := by
  rw [same_iff]
  apply List.ext_getElem hl
  intro i h1 h2
  have := same_iff.1 (h i h1)
  rwa [getElem!_pos xs i h1, getElem!_pos ys i h2] at this
end
theorem same_S2 {xs ys : List Nat} (h1 : xs.length = 2) (h2 : ys.length = 2) : same xs ys = ((xs[0]! == ys[0]!) && (xs[1]! == ys[1]!)) := by
  obtain ⟨a, b, rfl⟩ := is2 h1
  obtain ⟨c, d, rfl⟩ := is2 h2
  rw [Bool.eq_iff_iff]
  simp [same_iff]
theorem brN {b : Bool} {p q : Prop} (ht : b = false → p) (hf : b = true → q) : BIF (!b) p q := br (fun h => ht (nt h)) fun h => hf (nf h)
/-- A call that changes nothing, and what follows, from some earlier memory on. -/
theorem goE {P : Program} {f : FuncId} {args : Array Value} {v : Value} {h0 h : Heap} {K : Value → Heap → Prop} (E : Ext h0 h) (c : CALL P f args (fun u h' => u = v ∧ Ext h h') h) (H : ∀ h', Ext h0 h' → K v h') : CALL P f args K h :=
  c.mono fun u h' ⟨e, x⟩ => by subst e; exact H h' (E.trans x)
theorem goD {P : Program} {f : Value} {args : Array Value} {v : Value} {h0 h : Heap} {K : Value → Heap → Prop} (E : Ext h0 h) (c : CALLD P f args (fun u h' => u = v ∧ Ext h h') h) (H : ∀ h', Ext h0 h' → K v h') : CALLD P f args K h :=
  CALLD.mono (fun u h' ⟨e, x⟩ => by subst e; exact H h' (E.trans x)) c
theorem same_Ring (x y : GRing) : same x y = (same x.Samples y.Samples && (x.At == y.At)) := by
  rw [Bool.eq_iff_iff]
  simp only [same_iff, Bool.and_eq_true, beq_iff_eq]
  cases x; cases y; simp [and_assoc]
theorem same_Filter (x y : GFilter) : same x y = ((x.Kind == y.Kind) && same x.C y.C && same x.S y.S) := by
  rw [Bool.eq_iff_iff]
  simp only [same_iff, Bool.and_eq_true, beq_iff_eq]
  cases x; cases y; simp [and_assoc]
theorem same_String (x y : GString) : same x y = (same x.Loop y.Loop && same x.Tune y.Tune && same x.Damp y.Damp && (x.Loss == y.Loss)) := by
  rw [Bool.eq_iff_iff]
  simp only [same_iff, Bool.and_eq_true, beq_iff_eq]
  cases x; cases y; simp [and_assoc]
end Go.Sx
/- Tunings and instruments: the rule's and the program's. -/
set_option linter.unusedVariables false
set_option linter.unusedSimpArgs false
namespace Go.Sx
open Go.Proofs
set_option maxRecDepth 100000
set_option maxHeartbeats 1000000

def degAt (t : GTuning) (i : Nat) : Bool := flt .f32 t.Degrees[i]! t.Octave && (i == 0 || fgt .f32 t.Degrees[i]! t.Degrees[i - 1]!)
def GTuning.ok (t : GTuning) : Bool := inside t.Base 1065353216 1184645120 && inside t.Octave 1065353216 1167458304 && inR t.Degrees.length 1 31 && (t.Degrees[0]! == 0) && (List.range t.Degrees.length).all (degAt t)
def place (a : Nat) : Bool := fge .f32 a 0 && flt .f32 a 1065353216
def GInstrument.ok (x : GInstrument) : Bool := nameOk x.Name && inside x.B 0 1065353216 &&
  if x.Kind = 1 then inside x.A 0 1056964608 && place x.C else if x.Kind = 2 then place x.A && (feq .f32 x.C 0 || feq .f32 x.C 1065353216) else if x.Kind = 3 then place x.A && fin x.C else false
section
variable {h : Heap} {x a : Nat}
theorem c1 : FW .f32 1065353216 1065353216 := fw_c32 (by decide) (by decide)
theorem c05 : FW .f32 1056964608 1056964608 := fw_c32 (by decide) (by decide)
theorem cR : FW .f32 1232348160 1232348160 := fw_c32 (by decide) (by decide)
theorem wrap_pred {n : Nat} (h0 : 0 < n) (h : n < 9223372036854775808) : IntKind.i64.wrap ((n : Int) - 1) = ((n - 1 : Nat) : Int) := by rw [wrap64 (by omega) (by omega)]; omega
end
end Go.Sx
/- What functions of this seat's program compute, told in words (a predicate over heaps for each), and the proofs that the words are no more than the code's own weakest precondition. -/
namespace Go.Sx
open Go.Proofs
set_option linter.unusedVariables false
set_option maxRecDepth 100000

def math_Inf.S (sign_0 : Int) (Post : Value → Heap → Prop) (h : Heap) : Prop :=
    BIF ((decide ((0 : Int) ≤ sign_0))) (
    CALL prg f_math_Float64frombits #[.int .u64 (9218868437227405312 : Int)] (fun q1 h2 =>
    asF .f64 q1 fun r3 =>
    Post (.float .f64 r3) h2) h) (
    CALL prg f_math_Float64frombits #[.int .u64 (18442240474082181120 : Int)] (fun q4 h5 =>
    asF .f64 q4 fun r6 =>
    Post (.float .f64 r6) h5) h)
noncomputable def math_Inf.code : Code := (Tryz.f113.body).getD .skip
theorem math_Inf.call {sign_0 : Int} {Post : Value → Heap → Prop} {h : Heap} (H : math_Inf.S sign_0 Post h) : CALL prg f_math_Inf #[.int .i64 sign_0] Post h :=
  fn_call tau_ok mixed (c := math_Inf.code) (Λ := lookL []) Tryz.func113 (by kernel_rfl) (by kernel_rfl)
    (Rq.free (by kernel_rfl))
    (Eq.mp (by kernel_rfl) H)

end Go.Sx
/- Tunings: cents, powers of two, frequencies, periods. -/
set_option linter.unusedVariables false
set_option linter.unusedSimpArgs false
namespace Go.Sx
open Go.Proofs Ieee
set_option maxRecDepth 100000
set_option maxHeartbeats 1000000

abbrev S2 := Nat × Nat × Nat × Int
end Go.Sx
/- Lists of instruments: the names differ. -/
set_option linter.unusedVariables false
set_option linter.unusedSimpArgs false
namespace Go.Sx
open Go.Proofs
set_option maxRecDepth 100000
set_option maxHeartbeats 1000000

def instAt (xs : List GInstrument) (i : Nat) : Bool := xs[i]!.ok && (List.range i).all fun k => !decide (xs[k]!.Name = xs[i]!.Name)
def instOk (xs : List GInstrument) : Bool := (List.range xs.length).all (instAt xs)
/-- The first elements of a slice. -/
theorem SlR.pre {α : Type} {r : Rep α} {h : Heap} {b : Option Addr} {l c i : Nat} {xs : List α} (S : SlR r h b l c xs) (hi : i < l) (sz : Nat) : SlR r h (slA b c 0 sz) (i - 0) (c - 0) (xs.take i) := by
  obtain ⟨h1, h2, h3, ws, C, R⟩ := S
  obtain ⟨pre, mid, post, e1, rfl, _, R1, _⟩ := R.at (i := i) (by omega)
  have hb : slA b c 0 sz = b := by
    unfold slA
    split
    · rfl
    · cases b with
      | none => rfl
      | some a => rw [Option.map_some, Nat.zero_mul, add0]
  refine ⟨by rw [List.length_take]; omega, by omega, h3, pre, fun k hk => ?_, R1⟩
  rw [hb]
  obtain ⟨a, ha, e⟩ := C k (by rw [List.length_append]; omega)
  exact ⟨a, ha, by rw [e, List.getElem?_append_left hk]⟩
end Go.Sx
/- The program: which events are good, which scores. -/
set_option linter.unusedVariables false
set_option linter.unusedSimpArgs false
namespace Go.Sx
open Go.Proofs
set_option maxRecDepth 100000
set_option maxHeartbeats 2000000

noncomputable def GScore.ok (s : GScore) : Bool := inside s.Rate 1065353216 1232348160 && s.Tuning.ok && (decide (s.Instruments.length ≤ 6) && instOk s.Instruments) && evOk s.Events s.Instruments.length
end Go.Sx
/- Tunings: cents, frequencies, periods. -/
set_option linter.unusedVariables false
set_option linter.unusedSimpArgs false
namespace Go.Sx
open Go.Proofs Ieee
set_option maxRecDepth 100000
set_option maxHeartbeats 1000000

def GTuning.turn (t : GTuning) (key : Int) : Nat := fdiv .f32 (t.centsOf key) 1150681088
def GTuning.hz (t : GTuning) (key : Int) : Nat := fmul .f32 t.Base (twoTo (t.turn key))
def GTuning.asked (t : GTuning) (key : Int) : Nat × Int := if t.ok then if inR key (-100) 100 then if inTwo (t.turn key) then (t.hz key, 0) else (0, 2) else (0, 2) else (0, 1)
def GTuning.period (t : GTuning) (key : Int) (rate : Nat) : Nat × Int := if (t.asked key).2 = 0 then if inside rate 1065353216 1232348160 then (fdiv .f32 rate (t.asked key).1, 0) else (0, 2) else (0, (t.asked key).2)
end Go.Sx
/- What functions of this seat's program compute, told in words (a predicate over heaps for each), and the proofs that the words are no more than the code's own weakest precondition. -/
namespace Go.Sx
open Go.Proofs
set_option linter.unusedVariables false
set_option maxRecDepth 100000

def spec_AllpassFor.J3 (Post : Value → Heap → Prop) (fraction_0 : Nat) (t2 : Addr) (h : Heap) : Prop :=
    FOP .f32 (FloatKind.f32.format.sub 1065353216 fraction_0) fun r7 =>
    FOP .f32 (FloatKind.f32.format.add 1065353216 fraction_0) fun r8 =>
    FOP .f32 (FloatKind.f32.format.div r7 r8) fun r9 =>
    SIZ (Array.size (⟨[.float .f32 r9, .float .f32 0, .float .f32 0]⟩ : Array Value)) 3 <|
    STA 6 h t2 (⟨[.int .i64 (3 : Int), .float .f32 r9, .float .f32 0, .float .f32 0, .float .f32 0, .float .f32 0]⟩ : Array Value) fun h10 =>
    LDA 6 h10 t2 fun a11 =>
    Post (.tuple ⟨[.agg a11, .int .i64 (0 : Int)]⟩) h10
def spec_AllpassFor.j3 (Post : Value → Heap → Prop) : Frame → Heap → Prop := fun fr h => GRD (shape (kds 19 [(0, .f .f32), (2, .p)]) fr) (spec_AllpassFor.J3 Post (gF (lget fr 0)) (gP (lget fr 2)) h)
def spec_AllpassFor.S (fraction_0 : Nat) (Post : Value → Heap → Prop) (h : Heap) : Prop :=
    ALC ⟨Z_impl_Filter⟩ T_impl_Filter (fun g1 h2 =>
    BIF (FloatKind.f32.format.order fraction_0 0 == some .gt || FloatKind.f32.format.order fraction_0 0 == some .eq) (
    BIF (!(FloatKind.f32.format.order fraction_0 1073741824 == some .lt || FloatKind.f32.format.order fraction_0 1073741824 == some .eq)) (
    STA 6 h2 ⟨g1, 0, none⟩ (⟨[.int .i64 (0 : Int), .float .f32 0, .float .f32 0, .float .f32 0, .float .f32 0, .float .f32 0]⟩ : Array Value) fun h3 =>
    LDA 6 h3 ⟨g1, 0, none⟩ fun a4 =>
    Post (.tuple ⟨[.agg a4, .int .i64 (2 : Int)]⟩) h3) (
    spec_AllpassFor.J3 Post fraction_0 ⟨g1, 0, none⟩ h2)) (
    STA 6 h2 ⟨g1, 0, none⟩ (⟨[.int .i64 (0 : Int), .float .f32 0, .float .f32 0, .float .f32 0, .float .f32 0, .float .f32 0]⟩ : Array Value) fun h5 =>
    LDA 6 h5 ⟨g1, 0, none⟩ fun a6 =>
    Post (.tuple ⟨[.agg a6, .int .i64 (2 : Int)]⟩) h5)) h
noncomputable def spec_AllpassFor.code : Code := (Tryz.f79.body).getD .skip
theorem spec_AllpassFor.call {fraction_0 : Nat} {Post : Value → Heap → Prop} {h : Heap} (H : spec_AllpassFor.S fraction_0 Post h) : CALL prg f_spec_AllpassFor #[.float .f32 fraction_0] Post h :=
  fn_call tau_ok mixed (c := spec_AllpassFor.code) (Λ := lookL [(3, spec_AllpassFor.j3 Post)]) Tryz.func79 (by kernel_rfl) (by kernel_rfl)
    (Rq.seq (by kernel_rfl) (Rq.free (by kernel_rfl)) (Rq.seqJ (spec_AllpassFor.j3 Post) (by kernel_rfl) (seg (fun _ _ => by kernel_rfl)) (Rq.free (by kernel_rfl))
(Rq.free (by kernel_rfl))))
    (Eq.mp (by kernel_rfl) H)

def spec_OneZero.S (mix_0 : Nat) (Post : Value → Heap → Prop) (h : Heap) : Prop :=
    ALC ⟨Z_impl_Filter⟩ T_impl_Filter (fun g1 h2 =>
    FOP .f32 (FloatKind.f32.format.sub 1065353216 mix_0) fun r3 =>
    SIZ (Array.size (⟨[.float .f32 r3, .float .f32 mix_0, .float .f32 0]⟩ : Array Value)) 3 <|
    STA 6 h2 ⟨g1, 0, none⟩ (⟨[.int .i64 (2 : Int), .float .f32 r3, .float .f32 mix_0, .float .f32 0, .float .f32 0, .float .f32 0]⟩ : Array Value) fun h4 =>
    LDA 6 h4 ⟨g1, 0, none⟩ fun a5 =>
    Post (.agg a5) h4) h
noncomputable def spec_OneZero.code : Code := (Tryz.f78.body).getD .skip
theorem spec_OneZero.call {mix_0 : Nat} {Post : Value → Heap → Prop} {h : Heap} (H : spec_OneZero.S mix_0 Post h) : CALL prg f_spec_OneZero #[.float .f32 mix_0] Post h :=
  fn_call tau_ok mixed (c := spec_OneZero.code) (Λ := lookL []) Tryz.func78 (by kernel_rfl) (by kernel_rfl)
    (Rq.free (by kernel_rfl))
    (Eq.mp (by kernel_rfl) H)

def spec_NewString.J7 (Post : Value → Heap → Prop) (mix_1 : Nat) (loss_2 : Nat) (t6 : Addr) (d_8 : Nat) (n_9 : Int) (h : Heap) : Prop :=
    FOP .f32 (FloatKind.f32.format.sub d_8 (FloatKind.f32.nearest n_9)) fun r18 =>
    CALL prg f_spec_AllpassFor #[.float .f32 r18] (fun q19 h20 =>
    TUP2 q19 fun q21 q22 =>
    asA q21 fun a23 =>
    asI .i64 q22 fun n24 =>
    ALC ⟨Z_impl_Filter⟩ T_impl_Filter (fun g25 h26 =>
    STA 6 h26 ⟨g25, 0, none⟩ a23 fun h27 =>
    LDA 6 h27 ⟨g25, 0, none⟩ fun a28 =>
    (MKS ti_float32 T_float32 n_9 n_9 (fun g29 h30 =>
    PIN h27 ⟨g25, 0, none⟩ 6 h30 <|
    CALL prg f_spec_OneZero #[.float .f32 mix_1] (fun q31 h32 =>
    asA q31 fun a33 =>
    PIN h27 ⟨g25, 0, none⟩ 6 h32 <|
    SIZ (Array.size (⟨[.slice (some ⟨g29, 0, none⟩) (Int.toNat n_9) (Int.toNat n_9), .int .i64 (0 : Int)]⟩ : Array Value)) 2 <|
    SIZ (Array.size a28) 6 <|
    SIZ (Array.size a33) 6 <|
    STA 15 h32 t6 (⟨(List.set (splice 8 6 a33 (splice 2 6 a28 [.slice (some ⟨g29, 0, none⟩) (Int.toNat n_9) (Int.toNat n_9), .int .i64 (0 : Int), .int .i64 (0 : Int), .float .f32 0, .float .f32 0, .float .f32 0, .float .f32 0, .float .f32 0, .int .i64 (0 : Int), .float .f32 0, .float .f32 0, .float .f32 0, .float .f32 0, .float .f32 0, .float .f32 0])) 14 (.float .f32 loss_2))⟩) fun h34 =>
    LDA 15 h34 t6 fun a35 =>
    Post (.tuple ⟨[.agg a35, .int .i64 (0 : Int)]⟩) h34) h30) h27) ∧ (CALL prg f_spec_OneZero #[.float .f32 mix_1] (fun q36 h37 =>
    asA q36 fun a38 =>
    PIN h27 ⟨g25, 0, none⟩ 6 h37 <|
    MKS ti_float32 T_float32 n_9 n_9 (fun g39 h40 =>
    PIN h27 ⟨g25, 0, none⟩ 6 h40 <|
    SIZ (Array.size (⟨[.slice (some ⟨g39, 0, none⟩) (Int.toNat n_9) (Int.toNat n_9), .int .i64 (0 : Int)]⟩ : Array Value)) 2 <|
    SIZ (Array.size a28) 6 <|
    SIZ (Array.size a38) 6 <|
    STA 15 h40 t6 (⟨(List.set (splice 8 6 a38 (splice 2 6 a28 [.slice (some ⟨g39, 0, none⟩) (Int.toNat n_9) (Int.toNat n_9), .int .i64 (0 : Int), .int .i64 (0 : Int), .float .f32 0, .float .f32 0, .float .f32 0, .float .f32 0, .float .f32 0, .int .i64 (0 : Int), .float .f32 0, .float .f32 0, .float .f32 0, .float .f32 0, .float .f32 0, .float .f32 0])) 14 (.float .f32 loss_2))⟩) fun h41 =>
    LDA 15 h41 t6 fun a42 =>
    Post (.tuple ⟨[.agg a42, .int .i64 (0 : Int)]⟩) h41) h37) h27)) h20) h
def spec_NewString.j7 (Post : Value → Heap → Prop) : Frame → Heap → Prop := fun fr h => GRD (shape (kds 66 [(1, .f .f32), (2, .f .f32), (6, .p), (8, .f .f32), (9, .i .i64)]) fr) (spec_NewString.J7 Post (gF (lget fr 1)) (gF (lget fr 2)) (gP (lget fr 6)) (gF (lget fr 8)) (gI (lget fr 9)) h)
def spec_NewString.J3 (Post : Value → Heap → Prop) (period_0 : Nat) (mix_1 : Nat) (loss_2 : Nat) (t6 : Addr) (h : Heap) : Prop :=
    FOP .f32 (FloatKind.f32.format.sub period_0 mix_1) fun r15 =>
    FIC .f32 r15 .i64 fun n16 =>
    FOP .f32 (FloatKind.f32.format.sub r15 (FloatKind.f32.nearest n16)) fun r17 =>
    BIF (FloatKind.f32.format.order r17 1048576000 == some .lt) (
    spec_NewString.J7 Post mix_1 loss_2 t6 r15 ((IntKind.i64.wrap (n16 - (1 : Int)))) h) (
    spec_NewString.J7 Post mix_1 loss_2 t6 r15 n16 h)
def spec_NewString.j3 (Post : Value → Heap → Prop) : Frame → Heap → Prop := fun fr h => GRD (shape (kds 66 [(0, .f .f32), (1, .f .f32), (2, .f .f32), (6, .p)]) fr) (spec_NewString.J3 Post (gF (lget fr 0)) (gF (lget fr 1)) (gF (lget fr 2)) (gP (lget fr 6)) h)
def spec_NewString.S (period_0 : Nat) (mix_1 : Nat) (loss_2 : Nat) (Post : Value → Heap → Prop) (h : Heap) : Prop :=
    ALC ⟨Z_impl_String⟩ T_impl_String (fun g1 h2 =>
    BIF (FloatKind.f32.format.order period_0 1077936128 == some .gt || FloatKind.f32.format.order period_0 1077936128 == some .eq) (
    BIF (!(FloatKind.f32.format.order period_0 1149239296 == some .lt || FloatKind.f32.format.order period_0 1149239296 == some .eq)) (
    STA 15 h2 ⟨g1, 0, none⟩ (⟨[.slice none 0 0, .int .i64 (0 : Int), .int .i64 (0 : Int), .float .f32 0, .float .f32 0, .float .f32 0, .float .f32 0, .float .f32 0, .int .i64 (0 : Int), .float .f32 0, .float .f32 0, .float .f32 0, .float .f32 0, .float .f32 0, .float .f32 0]⟩ : Array Value) fun h3 =>
    LDA 15 h3 ⟨g1, 0, none⟩ fun a4 =>
    Post (.tuple ⟨[.agg a4, .int .i64 (2 : Int)]⟩) h3) (
    BIF (FloatKind.f32.format.order mix_1 0 == some .gt || FloatKind.f32.format.order mix_1 0 == some .eq) (
    BIF (!(FloatKind.f32.format.order mix_1 1056964608 == some .lt || FloatKind.f32.format.order mix_1 1056964608 == some .eq)) (
    STA 15 h2 ⟨g1, 0, none⟩ (⟨[.slice none 0 0, .int .i64 (0 : Int), .int .i64 (0 : Int), .float .f32 0, .float .f32 0, .float .f32 0, .float .f32 0, .float .f32 0, .int .i64 (0 : Int), .float .f32 0, .float .f32 0, .float .f32 0, .float .f32 0, .float .f32 0, .float .f32 0]⟩ : Array Value) fun h5 =>
    LDA 15 h5 ⟨g1, 0, none⟩ fun a6 =>
    Post (.tuple ⟨[.agg a6, .int .i64 (2 : Int)]⟩) h5) (
    BIF (FloatKind.f32.format.order loss_2 0 == some .gt || FloatKind.f32.format.order loss_2 0 == some .eq) (
    BIF (!(FloatKind.f32.format.order loss_2 1065353216 == some .lt || FloatKind.f32.format.order loss_2 1065353216 == some .eq)) (
    STA 15 h2 ⟨g1, 0, none⟩ (⟨[.slice none 0 0, .int .i64 (0 : Int), .int .i64 (0 : Int), .float .f32 0, .float .f32 0, .float .f32 0, .float .f32 0, .float .f32 0, .int .i64 (0 : Int), .float .f32 0, .float .f32 0, .float .f32 0, .float .f32 0, .float .f32 0, .float .f32 0]⟩ : Array Value) fun h7 =>
    LDA 15 h7 ⟨g1, 0, none⟩ fun a8 =>
    Post (.tuple ⟨[.agg a8, .int .i64 (2 : Int)]⟩) h7) (
    spec_NewString.J3 Post period_0 mix_1 loss_2 ⟨g1, 0, none⟩ h2)) (
    STA 15 h2 ⟨g1, 0, none⟩ (⟨[.slice none 0 0, .int .i64 (0 : Int), .int .i64 (0 : Int), .float .f32 0, .float .f32 0, .float .f32 0, .float .f32 0, .float .f32 0, .int .i64 (0 : Int), .float .f32 0, .float .f32 0, .float .f32 0, .float .f32 0, .float .f32 0, .float .f32 0]⟩ : Array Value) fun h9 =>
    LDA 15 h9 ⟨g1, 0, none⟩ fun a10 =>
    Post (.tuple ⟨[.agg a10, .int .i64 (2 : Int)]⟩) h9))) (
    STA 15 h2 ⟨g1, 0, none⟩ (⟨[.slice none 0 0, .int .i64 (0 : Int), .int .i64 (0 : Int), .float .f32 0, .float .f32 0, .float .f32 0, .float .f32 0, .float .f32 0, .int .i64 (0 : Int), .float .f32 0, .float .f32 0, .float .f32 0, .float .f32 0, .float .f32 0, .float .f32 0]⟩ : Array Value) fun h11 =>
    LDA 15 h11 ⟨g1, 0, none⟩ fun a12 =>
    Post (.tuple ⟨[.agg a12, .int .i64 (2 : Int)]⟩) h11))) (
    STA 15 h2 ⟨g1, 0, none⟩ (⟨[.slice none 0 0, .int .i64 (0 : Int), .int .i64 (0 : Int), .float .f32 0, .float .f32 0, .float .f32 0, .float .f32 0, .float .f32 0, .int .i64 (0 : Int), .float .f32 0, .float .f32 0, .float .f32 0, .float .f32 0, .float .f32 0, .float .f32 0]⟩ : Array Value) fun h13 =>
    LDA 15 h13 ⟨g1, 0, none⟩ fun a14 =>
    Post (.tuple ⟨[.agg a14, .int .i64 (2 : Int)]⟩) h13)) h
noncomputable def spec_NewString.code : Code := (Tryz.f98.body).getD .skip
theorem spec_NewString.call {period_0 : Nat} {mix_1 : Nat} {loss_2 : Nat} {Post : Value → Heap → Prop} {h : Heap} (H : spec_NewString.S period_0 mix_1 loss_2 Post h) : CALL prg f_spec_NewString #[.float .f32 period_0, .float .f32 mix_1, .float .f32 loss_2] Post h :=
  fn_call tau_ok mixed (c := spec_NewString.code) (Λ := lookL [(3, spec_NewString.j3 Post), (7, spec_NewString.j7 Post)]) Tryz.func98 (by kernel_rfl) (by kernel_rfl)
    (Rq.seq (by kernel_rfl) (Rq.free (by kernel_rfl)) (Rq.seqJ (spec_NewString.j3 Post) (by kernel_rfl) (seg (fun _ _ => by kernel_rfl)) (Rq.free (by kernel_rfl))
(Rq.seq (by kernel_rfl) (Rq.free (by kernel_rfl)) (Rq.seq (by kernel_rfl) (Rq.free (by kernel_rfl)) (Rq.seqJ (spec_NewString.j7 Post) (by kernel_rfl) (seg (fun _ _ => by kernel_rfl)) (Rq.free (by kernel_rfl))
(Rq.free (by kernel_rfl)))))))
    (Eq.mp (by kernel_rfl) H)

def impl_String_clone.S (x_0 : Array Value) (Post : Value → Heap → Prop) (h : Heap) : Prop :=
    ALC x_0 T_impl_String (fun g1 h2 =>
    ALC ⟨Z_impl_String⟩ T_impl_String (fun g3 h4 =>
    LDA 2 h4 ⟨g1, 0, none⟩ fun a5 =>
    CALL prg f_impl_Ring_clone #[.agg a5] (fun q6 h7 =>
    asA q6 fun a8 =>
    STA 2 h7 ⟨g1, 0, none⟩ a8 fun h9 =>
    LDA 15 h9 ⟨g1, 0, none⟩ fun a10 =>
    STA 15 h9 ⟨g3, 0, none⟩ a10 fun h11 =>
    LDA 15 h11 ⟨g3, 0, none⟩ fun a12 =>
    Post (.agg a12) h11) h4) h2) h
noncomputable def impl_String_clone.code : Code := (Tryz.f53.body).getD .skip
theorem impl_String_clone.call {x_0 : Array Value} {Post : Value → Heap → Prop} {h : Heap} (H : impl_String_clone.S x_0 Post h) : CALL prg f_impl_String_clone #[.agg x_0] Post h :=
  fn_call tau_ok mixed (c := impl_String_clone.code) (Λ := lookL []) Tryz.func53 (by kernel_rfl) (by kernel_rfl)
    (Rq.free (by kernel_rfl))
    (Eq.mp (by kernel_rfl) H)

end Go.Sx
