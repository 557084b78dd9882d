/- How Tuning, Instrument, Event, Score lie in cells; their parts; given ones opened. -/
import Derived.Test.YtnhcoeogejgidacGreatDoorLg
import Derived.Test.YtnhcoeogejgidacGreatDoorTabE
import Derived.Test.YtnhcoeogejgidacGreatDoorLp7
import Derived.Test.YtnhcoeogejgidacGreatDoorLk24
set_option linter.unusedVariables false
set_option linter.unusedSimpArgs false
namespace Go.Sx
open Go.Proofs
def rTuning : Rep GTuning := (Rep.seq (rF .f32) (Rep.seq (rF .f32) ((rSl T_float32 (rF .f32))))).via fun a => (a.Base, a.Octave, a.Degrees)
theorem foc_Tuning_Base : Foc rTuning (rF .f32) 0 (fun a => a.Base) (fun a b => { a with Base := b }) := (Foc.via (f := fun a : GTuning => (a.Base, a.Octave, a.Degrees)) (get' := fun a => a.Base) (put' := fun a b => { a with Base := b }) (Foc.fst (Foc.here (rF .f32))) (fun _ => rfl) (fun _ _ => rfl)).at rfl
theorem foc_Tuning_Octave : Foc rTuning (rF .f32) 1 (fun a => a.Octave) (fun a b => { a with Octave := b }) := (Foc.via (f := fun a : GTuning => (a.Base, a.Octave, a.Degrees)) (get' := fun a => a.Octave) (put' := fun a b => { a with Octave := b }) (Foc.snd (Foc.fst (Foc.here (rF .f32)))) (fun _ => rfl) (fun _ _ => rfl)).at rfl
theorem foc_Tuning_Degrees : Foc rTuning (rSl T_float32 (rF .f32)) 2 (fun a => a.Degrees) (fun a b => { a with Degrees := b }) := (Foc.via (f := fun a : GTuning => (a.Base, a.Octave, a.Degrees)) (get' := fun a => a.Degrees) (put' := fun a b => { a with Degrees := b }) (Foc.snd (Foc.snd (Foc.here (rSl T_float32 (rF .f32))))) (fun _ => rfl) (fun _ _ => rfl)).at rfl
def z_Tuning : GTuning := ⟨0, 0, []⟩
theorem zow_Tuning : rTuning.ow [] [Value.float .f32 0, Value.float .f32 0, Value.slice none 0 0] z_Tuning := ⟨[], [], [Value.float .f32 0], [Value.float .f32 0, Value.slice none 0 0], rfl, rfl, ⟨rfl, 0, rfl, fw_c32 (by decide) (by decide)⟩, ⟨[], [], [Value.float .f32 0], [Value.slice none 0 0], rfl, rfl, ⟨rfl, 0, rfl, fw_c32 (by decide) (by decide)⟩, ⟨none, 0, 0, rfl, SlO.nil⟩⟩⟩
instance lf_Tuning_0 : FocC rTuning 0 (rF .f32) (fun a => a.Base) (fun a b => { a with Base := b }) := ⟨Foc.at foc_Tuning_Base rfl⟩
instance lf_Tuning_1 : FocC rTuning 1 (rF .f32) (fun a => a.Octave) (fun a b => { a with Octave := b }) := ⟨Foc.at foc_Tuning_Octave rfl⟩
instance lf_Tuning_2 : FocC rTuning 2 (rSl T_float32 (rF .f32)) (fun a => a.Degrees) (fun a b => { a with Degrees := b }) := ⟨Foc.at foc_Tuning_Degrees rfl⟩
def rInstrument : Rep GInstrument := (Rep.seq rS (Rep.seq (rI .i64) (Rep.seq (rF .f32) (Rep.seq (rF .f32) ((rF .f32)))))).via fun a => (a.Name, a.Kind, a.A, a.B, a.C)
theorem foc_Instrument_Name : Foc rInstrument rS 0 (fun a => a.Name) (fun a b => { a with Name := b }) := (Foc.via (f := fun a : GInstrument => (a.Name, a.Kind, a.A, a.B, a.C)) (get' := fun a => a.Name) (put' := fun a b => { a with Name := b }) (Foc.fst (Foc.here rS)) (fun _ => rfl) (fun _ _ => rfl)).at rfl
theorem foc_Instrument_Kind : Foc rInstrument (rI .i64) 1 (fun a => a.Kind) (fun a b => { a with Kind := b }) := (Foc.via (f := fun a : GInstrument => (a.Name, a.Kind, a.A, a.B, a.C)) (get' := fun a => a.Kind) (put' := fun a b => { a with Kind := b }) (Foc.snd (Foc.fst (Foc.here (rI .i64)))) (fun _ => rfl) (fun _ _ => rfl)).at rfl
theorem foc_Instrument_A : Foc rInstrument (rF .f32) 2 (fun a => a.A) (fun a b => { a with A := b }) := (Foc.via (f := fun a : GInstrument => (a.Name, a.Kind, a.A, a.B, a.C)) (get' := fun a => a.A) (put' := fun a b => { a with A := b }) (Foc.snd (Foc.snd (Foc.fst (Foc.here (rF .f32))))) (fun _ => rfl) (fun _ _ => rfl)).at rfl
theorem foc_Instrument_B : Foc rInstrument (rF .f32) 3 (fun a => a.B) (fun a b => { a with B := b }) := (Foc.via (f := fun a : GInstrument => (a.Name, a.Kind, a.A, a.B, a.C)) (get' := fun a => a.B) (put' := fun a b => { a with B := b }) (Foc.snd (Foc.snd (Foc.snd (Foc.fst (Foc.here (rF .f32)))))) (fun _ => rfl) (fun _ _ => rfl)).at rfl
theorem foc_Instrument_C : Foc rInstrument (rF .f32) 4 (fun a => a.C) (fun a b => { a with C := b }) := (Foc.via (f := fun a : GInstrument => (a.Name, a.Kind, a.A, a.B, a.C)) (get' := fun a => a.C) (put' := fun a b => { a with C := b }) (Foc.snd (Foc.snd (Foc.snd (Foc.snd (Foc.here (rF .f32)))))) (fun _ => rfl) (fun _ _ => rfl)).at rfl
def z_Instrument : GInstrument := ⟨(⟨#[]⟩ : ByteArray), 0, 0, 0, 0⟩
theorem zow_Instrument : rInstrument.ow [] [Value.string (⟨#[]⟩ : ByteArray), Value.int .i64 (0 : Int), Value.float .f32 0, Value.float .f32 0, Value.float .f32 0] z_Instrument := ⟨[], [], [Value.string (⟨#[]⟩ : ByteArray)], [Value.int .i64 (0 : Int), Value.float .f32 0, Value.float .f32 0, Value.float .f32 0], rfl, rfl, ⟨rfl, rfl, by decide⟩, ⟨[], [], [Value.int .i64 (0 : Int)], [Value.float .f32 0, Value.float .f32 0, Value.float .f32 0], rfl, rfl, ⟨rfl, rfl⟩, ⟨[], [], [Value.float .f32 0], [Value.float .f32 0, Value.float .f32 0], rfl, rfl, ⟨rfl, 0, rfl, fw_c32 (by decide) (by decide)⟩, ⟨[], [], [Value.float .f32 0], [Value.float .f32 0], rfl, rfl, ⟨rfl, 0, rfl, fw_c32 (by decide) (by decide)⟩, ⟨rfl, 0, rfl, fw_c32 (by decide) (by decide)⟩⟩⟩⟩⟩
instance lf_Instrument_0 : FocC rInstrument 0 rS (fun a => a.Name) (fun a b => { a with Name := b }) := ⟨Foc.at foc_Instrument_Name rfl⟩
instance lf_Instrument_1 : FocC rInstrument 1 (rI .i64) (fun a => a.Kind) (fun a b => { a with Kind := b }) := ⟨Foc.at foc_Instrument_Kind rfl⟩
instance lf_Instrument_2 : FocC rInstrument 2 (rF .f32) (fun a => a.A) (fun a b => { a with A := b }) := ⟨Foc.at foc_Instrument_A rfl⟩
instance lf_Instrument_3 : FocC rInstrument 3 (rF .f32) (fun a => a.B) (fun a b => { a with B := b }) := ⟨Foc.at foc_Instrument_B rfl⟩
instance lf_Instrument_4 : FocC rInstrument 4 (rF .f32) (fun a => a.C) (fun a b => { a with C := b }) := ⟨Foc.at foc_Instrument_C rfl⟩
def rEvent : Rep GEvent := (Rep.seq (rI .i64) (Rep.seq (rI .i64) (Rep.seq (rI .i64) (Rep.seq (rI .i64) (Rep.seq (rI .i64) ((rF .f32))))))).via fun a => (a.At, a.Kind, a.Note, a.Instrument, a.Key, a.Force)
theorem foc_Event_At : Foc rEvent (rI .i64) 0 (fun a => a.At) (fun a b => { a with At := b }) := (Foc.via (f := fun a : GEvent => (a.At, a.Kind, a.Note, a.Instrument, a.Key, a.Force)) (get' := fun a => a.At) (put' := fun a b => { a with At := b }) (Foc.fst (Foc.here (rI .i64))) (fun _ => rfl) (fun _ _ => rfl)).at rfl
theorem foc_Event_Kind : Foc rEvent (rI .i64) 1 (fun a => a.Kind) (fun a b => { a with Kind := b }) := (Foc.via (f := fun a : GEvent => (a.At, a.Kind, a.Note, a.Instrument, a.Key, a.Force)) (get' := fun a => a.Kind) (put' := fun a b => { a with Kind := b }) (Foc.snd (Foc.fst (Foc.here (rI .i64)))) (fun _ => rfl) (fun _ _ => rfl)).at rfl
theorem foc_Event_Note : Foc rEvent (rI .i64) 2 (fun a => a.Note) (fun a b => { a with Note := b }) := (Foc.via (f := fun a : GEvent => (a.At, a.Kind, a.Note, a.Instrument, a.Key, a.Force)) (get' := fun a => a.Note) (put' := fun a b => { a with Note := b }) (Foc.snd (Foc.snd (Foc.fst (Foc.here (rI .i64))))) (fun _ => rfl) (fun _ _ => rfl)).at rfl
theorem foc_Event_Instrument : Foc rEvent (rI .i64) 3 (fun a => a.Instrument) (fun a b => { a with Instrument := b }) := (Foc.via (f := fun a : GEvent => (a.At, a.Kind, a.Note, a.Instrument, a.Key, a.Force)) (get' := fun a => a.Instrument) (put' := fun a b => { a with Instrument := b }) (Foc.snd (Foc.snd (Foc.snd (Foc.fst (Foc.here (rI .i64)))))) (fun _ => rfl) (fun _ _ => rfl)).at rfl
theorem foc_Event_Key : Foc rEvent (rI .i64) 4 (fun a => a.Key) (fun a b => { a with Key := b }) := (Foc.via (f := fun a : GEvent => (a.At, a.Kind, a.Note, a.Instrument, a.Key, a.Force)) (get' := fun a => a.Key) (put' := fun a b => { a with Key := b }) (Foc.snd (Foc.snd (Foc.snd (Foc.snd (Foc.fst (Foc.here (rI .i64))))))) (fun _ => rfl) (fun _ _ => rfl)).at rfl
theorem foc_Event_Force : Foc rEvent (rF .f32) 5 (fun a => a.Force) (fun a b => { a with Force := b }) := (Foc.via (f := fun a : GEvent => (a.At, a.Kind, a.Note, a.Instrument, a.Key, a.Force)) (get' := fun a => a.Force) (put' := fun a b => { a with Force := b }) (Foc.snd (Foc.snd (Foc.snd (Foc.snd (Foc.snd (Foc.here (rF .f32))))))) (fun _ => rfl) (fun _ _ => rfl)).at rfl
def z_Event : GEvent := ⟨0, 0, 0, 0, 0, 0⟩
theorem zow_Event : rEvent.ow [] [Value.int .i64 (0 : Int), Value.int .i64 (0 : Int), Value.int .i64 (0 : Int), Value.int .i64 (0 : Int), Value.int .i64 (0 : Int), Value.float .f32 0] z_Event := ⟨[], [], [Value.int .i64 (0 : Int)], [Value.int .i64 (0 : Int), Value.int .i64 (0 : Int), Value.int .i64 (0 : Int), Value.int .i64 (0 : Int), Value.float .f32 0], rfl, rfl, ⟨rfl, rfl⟩, ⟨[], [], [Value.int .i64 (0 : Int)], [Value.int .i64 (0 : Int), Value.int .i64 (0 : Int), Value.int .i64 (0 : Int), Value.float .f32 0], rfl, rfl, ⟨rfl, rfl⟩, ⟨[], [], [Value.int .i64 (0 : Int)], [Value.int .i64 (0 : Int), Value.int .i64 (0 : Int), Value.float .f32 0], rfl, rfl, ⟨rfl, rfl⟩, ⟨[], [], [Value.int .i64 (0 : Int)], [Value.int .i64 (0 : Int), Value.float .f32 0], rfl, rfl, ⟨rfl, rfl⟩, ⟨[], [], [Value.int .i64 (0 : Int)], [Value.float .f32 0], rfl, rfl, ⟨rfl, rfl⟩, ⟨rfl, 0, rfl, fw_c32 (by decide) (by decide)⟩⟩⟩⟩⟩⟩
instance lf_Event_0 : FocC rEvent 0 (rI .i64) (fun a => a.At) (fun a b => { a with At := b }) := ⟨Foc.at foc_Event_At rfl⟩
instance lf_Event_1 : FocC rEvent 1 (rI .i64) (fun a => a.Kind) (fun a b => { a with Kind := b }) := ⟨Foc.at foc_Event_Kind rfl⟩
instance lf_Event_2 : FocC rEvent 2 (rI .i64) (fun a => a.Note) (fun a b => { a with Note := b }) := ⟨Foc.at foc_Event_Note rfl⟩
instance lf_Event_3 : FocC rEvent 3 (rI .i64) (fun a => a.Instrument) (fun a b => { a with Instrument := b }) := ⟨Foc.at foc_Event_Instrument rfl⟩
instance lf_Event_4 : FocC rEvent 4 (rI .i64) (fun a => a.Key) (fun a b => { a with Key := b }) := ⟨Foc.at foc_Event_Key rfl⟩
instance lf_Event_5 : FocC rEvent 5 (rF .f32) (fun a => a.Force) (fun a b => { a with Force := b }) := ⟨Foc.at foc_Event_Force rfl⟩
def rScore : Rep GScore := (Rep.seq (rF .f32) (Rep.seq rTuning (Rep.seq (rSl T_impl_Instrument rInstrument) ((rSl T_impl_Event rEvent))))).via fun a => (a.Rate, a.Tuning, a.Instruments, a.Events)
theorem foc_Score_Rate : Foc rScore (rF .f32) 0 (fun a => a.Rate) (fun a b => { a with Rate := b }) := (Foc.via (f := fun a : GScore => (a.Rate, a.Tuning, a.Instruments, a.Events)) (get' := fun a => a.Rate) (put' := fun a b => { a with Rate := b }) (Foc.fst (Foc.here (rF .f32))) (fun _ => rfl) (fun _ _ => rfl)).at rfl
theorem foc_Score_Tuning : Foc rScore rTuning 1 (fun a => a.Tuning) (fun a b => { a with Tuning := b }) := (Foc.via (f := fun a : GScore => (a.Rate, a.Tuning, a.Instruments, a.Events)) (get' := fun a => a.Tuning) (put' := fun a b => { a with Tuning := b }) (Foc.snd (Foc.fst (Foc.here rTuning))) (fun _ => rfl) (fun _ _ => rfl)).at rfl
theorem foc_Score_Instruments : Foc rScore (rSl T_impl_Instrument rInstrument) 4 (fun a => a.Instruments) (fun a b => { a with Instruments := b }) := (Foc.via (f := fun a : GScore => (a.Rate, a.Tuning, a.Instruments, a.Events)) (get' := fun a => a.Instruments) (put' := fun a b => { a with Instruments := b }) (Foc.snd (Foc.snd (Foc.fst (Foc.here (rSl T_impl_Instrument rInstrument))))) (fun _ => rfl) (fun _ _ => rfl)).at rfl
theorem foc_Score_Events : Foc rScore (rSl T_impl_Event rEvent) 5 (fun a => a.Events) (fun a b => { a with Events := b }) := (Foc.via (f := fun a : GScore => (a.Rate, a.Tuning, a.Instruments, a.Events)) (get' := fun a => a.Events) (put' := fun a b => { a with Events := b }) (Foc.snd (Foc.snd (Foc.snd (Foc.here (rSl T_impl_Event rEvent))))) (fun _ => rfl) (fun _ _ => rfl)).at rfl
def z_Score : GScore := ⟨0, z_Tuning, [], []⟩
theorem zow_Score : rScore.ow [] [Value.float .f32 0, Value.float .f32 0, Value.float .f32 0, Value.slice none 0 0, Value.slice none 0 0, Value.slice none 0 0] z_Score := ⟨[], [], [Value.float .f32 0], [Value.float .f32 0, Value.float .f32 0, Value.slice none 0 0, Value.slice none 0 0, Value.slice none 0 0], rfl, rfl, ⟨rfl, 0, rfl, fw_c32 (by decide) (by decide)⟩, ⟨[], [], [Value.float .f32 0, Value.float .f32 0, Value.slice none 0 0], [Value.slice none 0 0, Value.slice none 0 0], rfl, rfl, zow_Tuning, ⟨[], [], [Value.slice none 0 0], [Value.slice none 0 0], rfl, rfl, ⟨none, 0, 0, rfl, SlO.nil⟩, ⟨none, 0, 0, rfl, SlO.nil⟩⟩⟩⟩
instance lf_Score_0 : FocC rScore 0 (rF .f32) (fun a => a.Rate) (fun a b => { a with Rate := b }) := ⟨Foc.at foc_Score_Rate rfl⟩
instance lf_Score_1 : FocC rScore 1 (rF .f32) (fun a => a.Tuning.Base) (fun a b => { a with Tuning := { a.Tuning with Base := b } }) := ⟨Foc.at (foc_Score_Tuning.trans lf_Tuning_0.f) rfl⟩
instance lf_Score_2 : FocC rScore 2 (rF .f32) (fun a => a.Tuning.Octave) (fun a b => { a with Tuning := { a.Tuning with Octave := b } }) := ⟨Foc.at (foc_Score_Tuning.trans lf_Tuning_1.f) rfl⟩
instance lf_Score_3 : FocC rScore 3 (rSl T_float32 (rF .f32)) (fun a => a.Tuning.Degrees) (fun a b => { a with Tuning := { a.Tuning with Degrees := b } }) := ⟨Foc.at (foc_Score_Tuning.trans lf_Tuning_2.f) rfl⟩
instance lf_Score_4 : FocC rScore 4 (rSl T_impl_Instrument rInstrument) (fun a => a.Instruments) (fun a b => { a with Instruments := b }) := ⟨Foc.at foc_Score_Instruments rfl⟩
instance lf_Score_5 : FocC rScore 5 (rSl T_impl_Event rEvent) (fun a => a.Events) (fun a b => { a with Events := b }) := ⟨Foc.at foc_Score_Events rfl⟩
end Go.Sx
/- Data that are the same, told field by field. -/
set_option linter.unusedVariables false
set_option linter.unusedSimpArgs false
namespace Go.Sx
open Go.Proofs
set_option maxRecDepth 100000
set_option maxHeartbeats 1000000

/-- Whether two data are the same. -/
noncomputable def same {α : Type} (x y : α) : Bool := @decide (x = y) (Classical.propDecidable _)
section
variable {α : Type} {x y : α}
theorem same_iff : same x y = true ↔ x = y := by unfold same; exact @decide_eq_true_iff _ (Classical.propDecidable _)
theorem same_refl : same x x = true := same_iff.2 rfl
theorem same_ne (h : x ≠ y) : same x y = false := by
  rw [Bool.eq_false_iff]; intro e; exact h (same_iff.1 e)
theorem same_nat (a b : Nat) : (a == b) = same a b := by rw [Bool.eq_iff_iff, same_iff, beq_iff_eq]
variable {xs ys : List α}
theorem same_len (h : xs.length ≠ ys.length) : same xs ys = false := same_ne fun e => h (by rw [e])
variable [Inhabited α]
theorem same_at {i : Nat} (h : same xs[i]! ys[i]! = false) : same xs ys = false := same_ne fun e => by
  rw [e, same_refl] at h; cases h
theorem same_all (hl : xs.length = ys.length) (h : ∀ i, i < xs.length → same xs[i]! ys[i]! = true) : same xs ys = true := by
  rw [same_iff]
  apply List.ext_getElem hl
  intro i h1 h2
  have := same_iff.1 (h i h1)
  rwa [getElem!_pos xs i h1, getElem!_pos ys i h2] at this
end
theorem brN {b : Bool} {p q : Prop} (ht : b = false → p) (hf : b = true → q) : BIF (!b) p q := br (fun h => ht (nt h)) fun h => hf (nf h)
/-- A function value that tells of two data whether they are the same. -/
def Tells2 {α : Type} (P : Program) (r : Rep α) (f : Value) : Prop := ∀ (ca cb : Array Value) (x y : α) h, r.rd h ca.toList x → r.rd h cb.toList y → CALLD P f #[.agg ca, .agg cb] (fun u h' => u = .bool (same x y) ∧ Ext h h') h
/-- A call that changes nothing, and what follows, from some earlier memory on. -/
theorem goE {P : Program} {f : FuncId} {args : Array Value} {v : Value} {h0 h : Heap} {K : Value → Heap → Prop} (E : Ext h0 h) (c : CALL P f args (fun u h' => u = v ∧ Ext h h') h) (H : ∀ h', Ext h0 h' → K v h') : CALL P f args K h :=
  c.mono fun u h' ⟨e, x⟩ => by subst e; exact H h' (E.trans x)
theorem goD {P : Program} {f : Value} {args : Array Value} {v : Value} {h0 h : Heap} {K : Value → Heap → Prop} (E : Ext h0 h) (c : CALLD P f args (fun u h' => u = v ∧ Ext h h') h) (H : ∀ h', Ext h0 h' → K v h') : CALLD P f args K h :=
  CALLD.mono (fun u h' ⟨e, x⟩ => by subst e; exact H h' (E.trans x)) c
theorem same_Tuning (x y : GTuning) : same x y = ((x.Base == y.Base) && (x.Octave == y.Octave) && same x.Degrees y.Degrees) := by
  rw [Bool.eq_iff_iff]
  simp only [same_iff, Bool.and_eq_true, beq_iff_eq]
  cases x; cases y; simp [and_assoc]
theorem same_Instrument (x y : GInstrument) : same x y = ((x.Name.toList == y.Name.toList) && (x.Kind == y.Kind) && (x.A == y.A) && (x.B == y.B) && (x.C == y.C)) := by
  rw [Bool.eq_iff_iff]
  simp only [same_iff, Bool.and_eq_true, beq_iff_eq, str_eq, decide_eq_true_eq]
  cases x; cases y; simp [and_assoc]
end Go.Sx
