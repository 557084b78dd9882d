/- Data that are the same, told field by field. -/
import Derived.Test.YtjoajnmhdobbfaaLk1
import Derived.Test.YtjoajnmhdobbfaaLr7
set_option linter.unusedVariables false
set_option linter.unusedSimpArgs false
namespace Go.Sx
open Go.Proofs
set_option maxRecDepth 100000
set_option maxHeartbeats 1000000

/-- Whether two data are the same. -/
noncomputable def same {α : Type} (x y : α) : Bool := @decide (x = y) (Classical.propDecidable _)
section
variable {α : Type} {x y : α}
theorem same_iff : same x y = true ↔ x = y := by unfold same; exact @decide_eq_true_iff _ (Classical.propDecidable _)
theorem same_refl : same x x = true := same_iff.2 rfl
theorem same_ne (h : x ≠ y) : same x y = false := by
  rw [Bool.eq_false_iff]; intro e; exact h (same_iff.1 e)
theorem same_nat (a b : Nat) : (a == b) = same a b := by rw [Bool.eq_iff_iff, same_iff, beq_iff_eq]
variable {xs ys : List α}
theorem same_len (h : xs.length ≠ ys.length) : same xs ys = false := same_ne fun e => h (by rw [e])
variable [Inhabited α]
theorem same_at {i : Nat} (h : same xs[i]! ys[i]! = false) : same xs ys = false := same_ne fun e => by
  rw [e, same_refl] at h; cases h
theorem same_all (hl : xs.length = ys.length) (h : ∀ i, i < xs.length → same xs[i]! ys[i]! = true) : same xs ys = true := by
  rw [same_iff]
  apply List.ext_getElem hl
  intro i h1 h2
  have := same_iff.1 (h i h1)
  rwa [getElem!_pos xs i h1, getElem!_pos ys i h2] at this
end
theorem same_S2 {xs ys : List Nat} (h1 : xs.length = 2) (h2 : ys.length = 2) : same xs ys = ((xs[0]! == ys[0]!) && (xs[1]! == ys[1]!)) := by
  obtain ⟨a, b, rfl⟩ := is2 h1
  obtain ⟨c, d, rfl⟩ := is2 h2
  rw [Bool.eq_iff_iff]
  simp [same_iff]
theorem same_R2 {a b c d : GRing} : same [a, b] [c, d] = (same a c && same b d) := by
  rw [Bool.eq_iff_iff]
  simp [same_iff]
theorem brN {b : Bool} {p q : Prop} (ht : b = false → p) (hf : b = true → q) : BIF (!b) p q := br (fun h => ht (nt h)) fun h => hf (nf h)
/-- A function value that tells of two data whether they are the same. -/
def Tells2 {α : Type} (P : Program) (r : Rep α) (f : Value) : Prop := ∀ (ca cb : Array Value) (x y : α) h, r.rd h ca.toList x → r.rd h cb.toList y → CALLD P f #[.agg ca, .agg cb] (fun u h' => u = .bool (same x y) ∧ Ext h h') h
/-- A call that changes nothing, and what follows, from some earlier memory on. -/
theorem goE {P : Program} {f : FuncId} {args : Array Value} {v : Value} {h0 h : Heap} {K : Value → Heap → Prop} (E : Ext h0 h) (c : CALL P f args (fun u h' => u = v ∧ Ext h h') h) (H : ∀ h', Ext h0 h' → K v h') : CALL P f args K h :=
  c.mono fun u h' ⟨e, x⟩ => by subst e; exact H h' (E.trans x)
theorem goD {P : Program} {f : Value} {args : Array Value} {v : Value} {h0 h : Heap} {K : Value → Heap → Prop} (E : Ext h0 h) (c : CALLD P f args (fun u h' => u = v ∧ Ext h h') h) (H : ∀ h', Ext h0 h' → K v h') : CALLD P f args K h :=
  CALLD.mono (fun u h' ⟨e, x⟩ => by subst e; exact H h' (E.trans x)) c
theorem same_Ring (x y : GRing) : same x y = (same x.Samples y.Samples && (x.At == y.At)) := by
  rw [Bool.eq_iff_iff]
  simp only [same_iff, Bool.and_eq_true, beq_iff_eq]
  cases x; cases y; simp [and_assoc]
theorem same_Filter (x y : GFilter) : same x y = ((x.Kind == y.Kind) && same x.C y.C && same x.S y.S) := by
  rw [Bool.eq_iff_iff]
  simp only [same_iff, Bool.and_eq_true, beq_iff_eq]
  cases x; cases y; simp [and_assoc]
theorem same_String (x y : GString) : same x y = (same x.Loop y.Loop && same x.Tune y.Tune && same x.Damp y.Damp && (x.Loss == y.Loss)) := by
  rw [Bool.eq_iff_iff]
  simp only [same_iff, Bool.and_eq_true, beq_iff_eq]
  cases x; cases y; simp [and_assoc]
theorem same_Pipe (x y : GPipe) : same x y = (same x.Right y.Right && same x.Left y.Left && same x.Scatter y.Scatter && same x.End y.End && (x.Open == y.Open) && (x.Loss == y.Loss) && (x.Rest == y.Rest) && (x.Slope == y.Slope)) := by
  rw [Bool.eq_iff_iff]
  simp only [same_iff, Bool.and_eq_true, beq_iff_eq]
  cases x; cases y; simp [and_assoc]
theorem same_Bow (x y : GBow) : same x y = (same x.Neck y.Neck && same x.Bridge y.Bridge && same x.Damp y.Damp && (x.Slope == y.Slope) && (x.Loss == y.Loss)) := by
  rw [Bool.eq_iff_iff]
  simp only [same_iff, Bool.and_eq_true, beq_iff_eq]
  cases x; cases y; simp [and_assoc]
theorem same_Tuning (x y : GTuning) : same x y = ((x.Base == y.Base) && (x.Octave == y.Octave) && same x.Degrees y.Degrees) := by
  rw [Bool.eq_iff_iff]
  simp only [same_iff, Bool.and_eq_true, beq_iff_eq]
  cases x; cases y; simp [and_assoc]
theorem same_Instrument (x y : GInstrument) : same x y = ((x.Name.toList == y.Name.toList) && (x.Kind == y.Kind) && (x.A == y.A) && (x.B == y.B) && (x.C == y.C)) := by
  rw [Bool.eq_iff_iff]
  simp only [same_iff, Bool.and_eq_true, beq_iff_eq, str_eq, decide_eq_true_eq]
  cases x; cases y; simp [and_assoc]
theorem same_Event (x y : GEvent) : same x y = ((x.At == y.At) && (x.Kind == y.Kind) && (x.Note == y.Note) && (x.Instrument == y.Instrument) && (x.Key == y.Key) && (x.Force == y.Force)) := by
  rw [Bool.eq_iff_iff]
  simp only [same_iff, Bool.and_eq_true, beq_iff_eq]
  cases x; cases y; simp [and_assoc]
theorem same_Score (x y : GScore) : same x y = ((x.Rate == y.Rate) && same x.Tuning y.Tuning && same x.Instruments y.Instruments && same x.Events y.Events) := by
  rw [Bool.eq_iff_iff]
  simp only [same_iff, Bool.and_eq_true, beq_iff_eq]
  cases x; cases y; simp [and_assoc]
theorem same_Voice (x y : GVoice) : same x y = ((x.Note == y.Note) && (x.Instrument == y.Instrument) && (x.Born == y.Born) && (x.Gone == y.Gone) && (x.Drive == y.Drive) && same x.String y.String && same x.Pipe y.Pipe && same x.Bow y.Bow) := by
  rw [Bool.eq_iff_iff]
  simp only [same_iff, Bool.and_eq_true, beq_iff_eq]
  cases x; cases y; simp [and_assoc]
theorem same_Player (x y : GPlayer) : same x y = (same x.Score y.Score && same x.Voices y.Voices && (x.Now == y.Now) && (x.Next == y.Next) && (x.Skipped == y.Skipped)) := by
  rw [Bool.eq_iff_iff]
  simp only [same_iff, Bool.and_eq_true, beq_iff_eq]
  cases x; cases y; simp [and_assoc]
end Go.Sx
