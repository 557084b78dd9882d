/- How Pipe lie in cells; their parts; given ones opened. -/
import Derived.Test.YtnhcoeogejgidabGreatDoorLg
import Derived.Test.YtnhcoeogejgidabGreatDoorLp2
import Derived.Test.YtnhcoeogejgidabGreatDoorLp5
import Derived.Test.YtnhcoeogejgidabGreatDoorTabE
import Derived.Test.YtnhcoeogejgidabGreatDoorLk0
import Derived.Test.YtnhcoeogejgidabGreatDoorLk24
set_option linter.unusedVariables false
set_option linter.unusedSimpArgs false
namespace Go.Sx
open Go.Proofs
def z_Pipe : GPipe := ⟨[], [], [], z_Filter, false, 0, 0, 0⟩
end Go.Sx
/- How String, Bow lie in cells; their parts; given ones opened. -/
set_option linter.unusedVariables false
set_option linter.unusedSimpArgs false
namespace Go.Sx
open Go.Proofs
def z_String : GString := ⟨z_Ring, z_Filter, z_Filter, 0⟩
def z_Bow : GBow := ⟨z_Ring, z_Ring, z_Filter, 0, 0⟩
end Go.Sx
/- How Tuning, Instrument, Event, Score lie in cells; their parts; given ones opened. -/
set_option linter.unusedVariables false
set_option linter.unusedSimpArgs false
namespace Go.Sx
open Go.Proofs
def rTuning : Rep GTuning := (Rep.seq (rF .f32) (Rep.seq (rF .f32) ((rSl T_float32 (rF .f32))))).via fun a => (a.Base, a.Octave, a.Degrees)
theorem foc_Tuning_Base : Foc rTuning (rF .f32) 0 (fun a => a.Base) (fun a b => { a with Base := b }) := (Foc.via (f := fun a : GTuning => (a.Base, a.Octave, a.Degrees)) (get' := fun a => a.Base) (put' := fun a b => { a with Base := b }) (Foc.fst (Foc.here (rF .f32))) (fun _ => rfl) (fun _ _ => rfl)).at rfl
theorem foc_Tuning_Octave : Foc rTuning (rF .f32) 1 (fun a => a.Octave) (fun a b => { a with Octave := b }) := (Foc.via (f := fun a : GTuning => (a.Base, a.Octave, a.Degrees)) (get' := fun a => a.Octave) (put' := fun a b => { a with Octave := b }) (Foc.snd (Foc.fst (Foc.here (rF .f32)))) (fun _ => rfl) (fun _ _ => rfl)).at rfl
theorem foc_Tuning_Degrees : Foc rTuning (rSl T_float32 (rF .f32)) 2 (fun a => a.Degrees) (fun a b => { a with Degrees := b }) := (Foc.via (f := fun a : GTuning => (a.Base, a.Octave, a.Degrees)) (get' := fun a => a.Degrees) (put' := fun a b => { a with Degrees := b }) (Foc.snd (Foc.snd (Foc.here (rSl T_float32 (rF .f32))))) (fun _ => rfl) (fun _ _ => rfl)).at rfl
def z_Tuning : GTuning := ⟨0, 0, []⟩
theorem zow_Tuning : rTuning.ow [] [Value.float .f32 0, Value.float .f32 0, Value.slice none 0 0] z_Tuning := ⟨[], [], [Value.float .f32 0], [Value.float .f32 0, Value.slice none 0 0], rfl, rfl, ⟨rfl, 0, rfl, fw_c32 (by decide) (by decide)⟩, ⟨[], [], [Value.float .f32 0], [Value.slice none 0 0], rfl, rfl, ⟨rfl, 0, rfl, fw_c32 (by decide) (by decide)⟩, ⟨none, 0, 0, rfl, SlO.nil⟩⟩⟩
instance lf_Tuning_0 : FocC rTuning 0 (rF .f32) (fun a => a.Base) (fun a b => { a with Base := b }) := ⟨Foc.at foc_Tuning_Base rfl⟩
instance lf_Tuning_1 : FocC rTuning 1 (rF .f32) (fun a => a.Octave) (fun a b => { a with Octave := b }) := ⟨Foc.at foc_Tuning_Octave rfl⟩
instance lf_Tuning_2 : FocC rTuning 2 (rSl T_float32 (rF .f32)) (fun a => a.Degrees) (fun a b => { a with Degrees := b }) := ⟨Foc.at foc_Tuning_Degrees rfl⟩
def rInstrument : Rep GInstrument := (Rep.seq rS (Rep.seq (rI .i64) (Rep.seq (rF .f32) (Rep.seq (rF .f32) ((rF .f32)))))).via fun a => (a.Name, a.Kind, a.A, a.B, a.C)
theorem foc_Instrument_Name : Foc rInstrument rS 0 (fun a => a.Name) (fun a b => { a with Name := b }) := (Foc.via (f := fun a : GInstrument => (a.Name, a.Kind, a.A, a.B, a.C)) (get' := fun a => a.Name) (put' := fun a b => { a with Name := b }) (Foc.fst (Foc.here rS)) (fun _ => rfl) (fun _ _ => rfl)).at rfl
theorem foc_Instrument_Kind : Foc rInstrument (rI .i64) 1 (fun a => a.Kind) (fun a b => { a with Kind := b }) := (Foc.via (f := fun a : GInstrument => (a.Name, a.Kind, a.A, a.B, a.C)) (get' := fun a => a.Kind) (put' := fun a b => { a with Kind := b }) (Foc.snd (Foc.fst (Foc.here (rI .i64)))) (fun _ => rfl) (fun _ _ => rfl)).at rfl
theorem foc_Instrument_A : Foc rInstrument (rF .f32) 2 (fun a => a.A) (fun a b => { a with A := b }) := (Foc.via (f := fun a : GInstrument => (a.Name, a.Kind, a.A, a.B, a.C)) (get' := fun a => a.A) (put' := fun a b => { a with A := b }) (Foc.snd (Foc.snd (Foc.fst (Foc.here (rF .f32))))) (fun _ => rfl) (fun _ _ => rfl)).at rfl
theorem foc_Instrument_B : Foc rInstrument (rF .f32) 3 (fun a => a.B) (fun a b => { a with B := b }) := (Foc.via (f := fun a : GInstrument => (a.Name, a.Kind, a.A, a.B, a.C)) (get' := fun a => a.B) (put' := fun a b => { a with B := b }) (Foc.snd (Foc.snd (Foc.snd (Foc.fst (Foc.here (rF .f32)))))) (fun _ => rfl) (fun _ _ => rfl)).at rfl
theorem foc_Instrument_C : Foc rInstrument (rF .f32) 4 (fun a => a.C) (fun a b => { a with C := b }) := (Foc.via (f := fun a : GInstrument => (a.Name, a.Kind, a.A, a.B, a.C)) (get' := fun a => a.C) (put' := fun a b => { a with C := b }) (Foc.snd (Foc.snd (Foc.snd (Foc.snd (Foc.here (rF .f32)))))) (fun _ => rfl) (fun _ _ => rfl)).at rfl
instance lf_Instrument_0 : FocC rInstrument 0 rS (fun a => a.Name) (fun a b => { a with Name := b }) := ⟨Foc.at foc_Instrument_Name rfl⟩
instance lf_Instrument_1 : FocC rInstrument 1 (rI .i64) (fun a => a.Kind) (fun a b => { a with Kind := b }) := ⟨Foc.at foc_Instrument_Kind rfl⟩
instance lf_Instrument_2 : FocC rInstrument 2 (rF .f32) (fun a => a.A) (fun a b => { a with A := b }) := ⟨Foc.at foc_Instrument_A rfl⟩
instance lf_Instrument_3 : FocC rInstrument 3 (rF .f32) (fun a => a.B) (fun a b => { a with B := b }) := ⟨Foc.at foc_Instrument_B rfl⟩
instance lf_Instrument_4 : FocC rInstrument 4 (rF .f32) (fun a => a.C) (fun a b => { a with C := b }) := ⟨Foc.at foc_Instrument_C rfl⟩
def rEvent : Rep GEvent := (Rep.seq (rI .i64) (Rep.seq (rI .i64) (Rep.seq (rI .i64) (Rep.seq (rI .i64) (Rep.seq (rI .i64) ((rF .f32))))))).via fun a => (a.At, a.Kind, a.Note, a.Instrument, a.Key, a.Force)
theorem foc_Event_At : Foc rEvent (rI .i64) 0 (fun a => a.At) (fun a b => { a with At := b }) := (Foc.via (f := fun a : GEvent => (a.At, a.Kind, a.Note, a.Instrument, a.Key, a.Force)) (get' := fun a => a.At) (put' := fun a b => { a with At := b }) (Foc.fst (Foc.here (rI .i64))) (fun _ => rfl) (fun _ _ => rfl)).at rfl
theorem foc_Event_Kind : Foc rEvent (rI .i64) 1 (fun a => a.Kind) (fun a b => { a with Kind := b }) := (Foc.via (f := fun a : GEvent => (a.At, a.Kind, a.Note, a.Instrument, a.Key, a.Force)) (get' := fun a => a.Kind) (put' := fun a b => { a with Kind := b }) (Foc.snd (Foc.fst (Foc.here (rI .i64)))) (fun _ => rfl) (fun _ _ => rfl)).at rfl
theorem foc_Event_Note : Foc rEvent (rI .i64) 2 (fun a => a.Note) (fun a b => { a with Note := b }) := (Foc.via (f := fun a : GEvent => (a.At, a.Kind, a.Note, a.Instrument, a.Key, a.Force)) (get' := fun a => a.Note) (put' := fun a b => { a with Note := b }) (Foc.snd (Foc.snd (Foc.fst (Foc.here (rI .i64))))) (fun _ => rfl) (fun _ _ => rfl)).at rfl
theorem foc_Event_Instrument : Foc rEvent (rI .i64) 3 (fun a => a.Instrument) (fun a b => { a with Instrument := b }) := (Foc.via (f := fun a : GEvent => (a.At, a.Kind, a.Note, a.Instrument, a.Key, a.Force)) (get' := fun a => a.Instrument) (put' := fun a b => { a with Instrument := b }) (Foc.snd (Foc.snd (Foc.snd (Foc.fst (Foc.here (rI .i64)))))) (fun _ => rfl) (fun _ _ => rfl)).at rfl
theorem foc_Event_Key : Foc rEvent (rI .i64) 4 (fun a => a.Key) (fun a b => { a with Key := b }) := (Foc.via (f := fun a : GEvent => (a.At, a.Kind, a.Note, a.Instrument, a.Key, a.Force)) (get' := fun a => a.Key) (put' := fun a b => { a with Key := b }) (Foc.snd (Foc.snd (Foc.snd (Foc.snd (Foc.fst (Foc.here (rI .i64))))))) (fun _ => rfl) (fun _ _ => rfl)).at rfl
theorem foc_Event_Force : Foc rEvent (rF .f32) 5 (fun a => a.Force) (fun a b => { a with Force := b }) := (Foc.via (f := fun a : GEvent => (a.At, a.Kind, a.Note, a.Instrument, a.Key, a.Force)) (get' := fun a => a.Force) (put' := fun a b => { a with Force := b }) (Foc.snd (Foc.snd (Foc.snd (Foc.snd (Foc.snd (Foc.here (rF .f32))))))) (fun _ => rfl) (fun _ _ => rfl)).at rfl
def z_Event : GEvent := ⟨0, 0, 0, 0, 0, 0⟩
theorem zow_Event : rEvent.ow [] [Value.int .i64 (0 : Int), Value.int .i64 (0 : Int), Value.int .i64 (0 : Int), Value.int .i64 (0 : Int), Value.int .i64 (0 : Int), Value.float .f32 0] z_Event := ⟨[], [], [Value.int .i64 (0 : Int)], [Value.int .i64 (0 : Int), Value.int .i64 (0 : Int), Value.int .i64 (0 : Int), Value.int .i64 (0 : Int), Value.float .f32 0], rfl, rfl, ⟨rfl, rfl⟩, ⟨[], [], [Value.int .i64 (0 : Int)], [Value.int .i64 (0 : Int), Value.int .i64 (0 : Int), Value.int .i64 (0 : Int), Value.float .f32 0], rfl, rfl, ⟨rfl, rfl⟩, ⟨[], [], [Value.int .i64 (0 : Int)], [Value.int .i64 (0 : Int), Value.int .i64 (0 : Int), Value.float .f32 0], rfl, rfl, ⟨rfl, rfl⟩, ⟨[], [], [Value.int .i64 (0 : Int)], [Value.int .i64 (0 : Int), Value.float .f32 0], rfl, rfl, ⟨rfl, rfl⟩, ⟨[], [], [Value.int .i64 (0 : Int)], [Value.float .f32 0], rfl, rfl, ⟨rfl, rfl⟩, ⟨rfl, 0, rfl, fw_c32 (by decide) (by decide)⟩⟩⟩⟩⟩⟩
instance lf_Event_0 : FocC rEvent 0 (rI .i64) (fun a => a.At) (fun a b => { a with At := b }) := ⟨Foc.at foc_Event_At rfl⟩
instance lf_Event_1 : FocC rEvent 1 (rI .i64) (fun a => a.Kind) (fun a b => { a with Kind := b }) := ⟨Foc.at foc_Event_Kind rfl⟩
instance lf_Event_2 : FocC rEvent 2 (rI .i64) (fun a => a.Note) (fun a b => { a with Note := b }) := ⟨Foc.at foc_Event_Note rfl⟩
instance lf_Event_3 : FocC rEvent 3 (rI .i64) (fun a => a.Instrument) (fun a b => { a with Instrument := b }) := ⟨Foc.at foc_Event_Instrument rfl⟩
instance lf_Event_4 : FocC rEvent 4 (rI .i64) (fun a => a.Key) (fun a b => { a with Key := b }) := ⟨Foc.at foc_Event_Key rfl⟩
instance lf_Event_5 : FocC rEvent 5 (rF .f32) (fun a => a.Force) (fun a b => { a with Force := b }) := ⟨Foc.at foc_Event_Force rfl⟩
def rScore : Rep GScore := (Rep.seq (rF .f32) (Rep.seq rTuning (Rep.seq (rSl T_impl_Instrument rInstrument) ((rSl T_impl_Event rEvent))))).via fun a => (a.Rate, a.Tuning, a.Instruments, a.Events)
theorem foc_Score_Rate : Foc rScore (rF .f32) 0 (fun a => a.Rate) (fun a b => { a with Rate := b }) := (Foc.via (f := fun a : GScore => (a.Rate, a.Tuning, a.Instruments, a.Events)) (get' := fun a => a.Rate) (put' := fun a b => { a with Rate := b }) (Foc.fst (Foc.here (rF .f32))) (fun _ => rfl) (fun _ _ => rfl)).at rfl
theorem foc_Score_Tuning : Foc rScore rTuning 1 (fun a => a.Tuning) (fun a b => { a with Tuning := b }) := (Foc.via (f := fun a : GScore => (a.Rate, a.Tuning, a.Instruments, a.Events)) (get' := fun a => a.Tuning) (put' := fun a b => { a with Tuning := b }) (Foc.snd (Foc.fst (Foc.here rTuning))) (fun _ => rfl) (fun _ _ => rfl)).at rfl
theorem foc_Score_Instruments : Foc rScore (rSl T_impl_Instrument rInstrument) 4 (fun a => a.Instruments) (fun a b => { a with Instruments := b }) := (Foc.via (f := fun a : GScore => (a.Rate, a.Tuning, a.Instruments, a.Events)) (get' := fun a => a.Instruments) (put' := fun a b => { a with Instruments := b }) (Foc.snd (Foc.snd (Foc.fst (Foc.here (rSl T_impl_Instrument rInstrument))))) (fun _ => rfl) (fun _ _ => rfl)).at rfl
theorem foc_Score_Events : Foc rScore (rSl T_impl_Event rEvent) 5 (fun a => a.Events) (fun a b => { a with Events := b }) := (Foc.via (f := fun a : GScore => (a.Rate, a.Tuning, a.Instruments, a.Events)) (get' := fun a => a.Events) (put' := fun a b => { a with Events := b }) (Foc.snd (Foc.snd (Foc.snd (Foc.here (rSl T_impl_Event rEvent))))) (fun _ => rfl) (fun _ _ => rfl)).at rfl
def z_Score : GScore := ⟨0, z_Tuning, [], []⟩
theorem zow_Score : rScore.ow [] [Value.float .f32 0, Value.float .f32 0, Value.float .f32 0, Value.slice none 0 0, Value.slice none 0 0, Value.slice none 0 0] z_Score := ⟨[], [], [Value.float .f32 0], [Value.float .f32 0, Value.float .f32 0, Value.slice none 0 0, Value.slice none 0 0, Value.slice none 0 0], rfl, rfl, ⟨rfl, 0, rfl, fw_c32 (by decide) (by decide)⟩, ⟨[], [], [Value.float .f32 0, Value.float .f32 0, Value.slice none 0 0], [Value.slice none 0 0, Value.slice none 0 0], rfl, rfl, zow_Tuning, ⟨[], [], [Value.slice none 0 0], [Value.slice none 0 0], rfl, rfl, ⟨none, 0, 0, rfl, SlO.nil⟩, ⟨none, 0, 0, rfl, SlO.nil⟩⟩⟩⟩
instance lf_Score_0 : FocC rScore 0 (rF .f32) (fun a => a.Rate) (fun a b => { a with Rate := b }) := ⟨Foc.at foc_Score_Rate rfl⟩
instance lf_Score_1 : FocC rScore 1 (rF .f32) (fun a => a.Tuning.Base) (fun a b => { a with Tuning := { a.Tuning with Base := b } }) := ⟨Foc.at (foc_Score_Tuning.trans lf_Tuning_0.f) rfl⟩
instance lf_Score_2 : FocC rScore 2 (rF .f32) (fun a => a.Tuning.Octave) (fun a b => { a with Tuning := { a.Tuning with Octave := b } }) := ⟨Foc.at (foc_Score_Tuning.trans lf_Tuning_1.f) rfl⟩
instance lf_Score_3 : FocC rScore 3 (rSl T_float32 (rF .f32)) (fun a => a.Tuning.Degrees) (fun a b => { a with Tuning := { a.Tuning with Degrees := b } }) := ⟨Foc.at (foc_Score_Tuning.trans lf_Tuning_2.f) rfl⟩
instance lf_Score_4 : FocC rScore 4 (rSl T_impl_Instrument rInstrument) (fun a => a.Instruments) (fun a b => { a with Instruments := b }) := ⟨Foc.at foc_Score_Instruments rfl⟩
instance lf_Score_5 : FocC rScore 5 (rSl T_impl_Event rEvent) (fun a => a.Events) (fun a b => { a with Events := b }) := ⟨Foc.at foc_Score_Events rfl⟩
end Go.Sx
/- Data that are the same, told field by field. -/
set_option linter.unusedVariables false
set_option linter.unusedSimpArgs false
namespace Go.Sx
open Go.Proofs
set_option maxRecDepth 100000
set_option maxHeartbeats 1000000

/-- Whether two data are the same. -/
noncomputable def same {α : Type} (x y : α) : Bool := @decide (x = y) (Classical.propDecidable _)
theorem brN {b : Bool} {p q : Prop} (ht : b = false → p) (hf : b = true → q) : BIF (!b) p q := br (fun h => ht (nt h)) fun h => hf (nf h)
/-- A call that changes nothing, and what follows, from some earlier memory on. -/
theorem goE {P : Program} {f : FuncId} {args : Array Value} {v : Value} {h0 h : Heap} {K : Value → Heap → Prop} (E : Ext h0 h) (c : CALL P f args (fun u h' => u = v ∧ Ext h h') h) (H : ∀ h', Ext h0 h' → K v h') : CALL P f args K h :=
  c.mono fun u h' ⟨e, x⟩ => by subst e; exact H h' (E.trans x)
theorem goD {P : Program} {f : Value} {args : Array Value} {v : Value} {h0 h : Heap} {K : Value → Heap → Prop} (E : Ext h0 h) (c : CALLD P f args (fun u h' => u = v ∧ Ext h h') h) (H : ∀ h', Ext h0 h' → K v h') : CALLD P f args K h :=
  CALLD.mono (fun u h' ⟨e, x⟩ => by subst e; exact H h' (E.trans x)) c
end Go.Sx
/- Tunings and instruments: the rule's and the program's. -/
set_option linter.unusedVariables false
set_option linter.unusedSimpArgs false
namespace Go.Sx
open Go.Proofs
set_option maxRecDepth 100000
set_option maxHeartbeats 1000000

/-- A local copy of a value that was read. -/
theorem localR {α : Type} {r : Rep α} {h : Heap} {x : α} {T n : Nat} {z cs : Array Value} {F : Nat → Heap → Prop} (R : r.rd h cs.toList x) (hz : z.size = n) (hn : r.sz = n)
    (H : ∀ g h', Ext h h' → RdP r h' ⟨g, 0, none⟩ x → F g h') : ALC z T (fun g h1 => STA n h1 ⟨g, 0, none⟩ cs fun h2 => F g h2) h :=
  (Mem.start h).alc fun g h1 x1 M => M.sta0 .here (rsz R hn) (r.rone R) hz .here fun h2 M => H g h2 M.ext (M.rdp .here (r.ext M.ext R))
def degAt (t : GTuning) (i : Nat) : Bool := flt .f32 t.Degrees[i]! t.Octave && (i == 0 || fgt .f32 t.Degrees[i]! t.Degrees[i - 1]!)
def GTuning.ok (t : GTuning) : Bool := inside t.Base 1065353216 1184645120 && inside t.Octave 1065353216 1167458304 && inR t.Degrees.length 1 31 && (t.Degrees[0]! == 0) && (List.range t.Degrees.length).all (degAt t)
def place (a : Nat) : Bool := fge .f32 a 0 && flt .f32 a 1065353216
def GInstrument.ok (x : GInstrument) : Bool := nameOk x.Name && inside x.B 0 1065353216 &&
  if x.Kind = 1 then inside x.A 0 1056964608 && place x.C else if x.Kind = 2 then place x.A && (feq .f32 x.C 0 || feq .f32 x.C 1065353216) else if x.Kind = 3 then place x.A && fin x.C else false
section
variable {h : Heap} {x a : Nat}
theorem c1 : FW .f32 1065353216 1065353216 := fw_c32 (by decide) (by decide)
theorem c05 : FW .f32 1056964608 1056964608 := fw_c32 (by decide) (by decide)
theorem cB : FW .f32 1184645120 1184645120 := fw_c32 (by decide) (by decide)
theorem SlR.at0 {α : Type} {r : Rep α} {b : Option Addr} {l c : Nat} {xs : List α} [Inhabited α] {F : Addr → Prop} (S : SlR r h b l c xs) (hz : 0 < r.sz) (h2 : 0 < l) (H : ∀ a, RdP r h a xs[0]! → F a) : IDXS b (0 : Int) l F :=
  S.idx hz (by omega) (by omega) fun a R => by
    have e : a.add ((0 : Int).toNat * r.sz) = a := by rw [show (0 : Int).toNat = 0 from rfl, Nat.zero_mul, add0]
    rw [e] at R
    exact H a R
theorem SlR.idn {α : Type} {r : Rep α} {b : Option Addr} {l c n : Nat} {xs : List α} [Inhabited α] {F : Addr → Prop} (S : SlR r h b l c xs) (hz : 0 < r.sz) (h2 : n < l) (H : ∀ a, RdP r h (a.add ((n : Int).toNat * r.sz)) xs[n]! → F a) : IDXS b (n : Int) l F :=
  S.idx hz (by omega) (by omega) H
theorem l07Base_c (hx : FW .f32 x a) : Ret prg f_spec_l07Base #[.float .f32 x] (.bool (inside a 1065353216 1184645120)) := fun h => by
  refine spec_l07Base.call ?_
  rw [spec_l07Base.S, ord_eq hx c1, ord_eq hx cB]
  exact br (fun hb => ⟨by rw [inside, fge, hb]; rfl, Ext.refl _⟩) fun hb => ⟨by rw [inside, fge, hb]; rfl, Ext.refl _⟩
theorem isBase_c (hx : FW .f32 x a) : Ret prg f_impl_isBase #[.float .f32 x] (.bool (inside a 1065353216 1184645120)) := fun h =>
  impl_isBase.call ((inside_c hx c1 cB).go fun h1 x1 => as_b ⟨rfl, x1⟩)
theorem isPlace_c (hx : FW .f32 x a) : Ret prg f_impl_isPlace #[.float .f32 x] (.bool (place a)) := fun h => by
  refine impl_isPlace.call ?_
  rw [impl_isPlace.S, ord_eq hx fw0, ord_eq hx c1]
  exact br (fun hb => ⟨by rw [place, fge, hb]; rfl, Ext.refl _⟩) fun hb => ⟨by rw [place, fge, hb]; rfl, Ext.refl _⟩
theorem isKeep_c (hx : FW .f32 x a) : Ret prg f_impl_isKeep #[.float .f32 x] (.bool (place a)) := fun h => by
  refine impl_isKeep.call ?_
  rw [impl_isKeep.S, ord_eq hx fw0, ord_eq hx c1]
  exact br (fun hb => ⟨by rw [place, fge, hb]; rfl, Ext.refl _⟩) fun hb => ⟨by rw [place, fge, hb]; rfl, Ext.refl _⟩
theorem between_c {m n : Nat} (hx : FW .f32 x a) (hm : FW .f32 m n) : Ret prg f_spec_l08Between #[.float .f32 x, .float .f32 m, .bool false] (.bool (inside a 0 n)) := fun h => by
  refine spec_l08Between.call ?_
  rw [spec_l08Between.S, ord_eq hx fw0, ord_eq hx hm]
  exact br_f rfl (br (fun hb => ⟨by rw [inside, fge, hb]; rfl, Ext.refl _⟩) fun hb => ⟨by rw [inside, fge, hb]; rfl, Ext.refl _⟩)
theorem below_c (hx : FW .f32 x a) : Ret prg f_spec_l08Between #[.float .f32 x, .float .f32 1065353216, .bool true] (.bool (place a)) := fun h => by
  refine spec_l08Between.call ?_
  rw [spec_l08Between.S, ord_eq hx fw0, ord_eq hx c1]
  exact br_t rfl (br (fun hb => ⟨by rw [place, fge, hb]; rfl, Ext.refl _⟩) fun hb => ⟨by rw [place, fge, hb]; rfl, Ext.refl _⟩)
theorem l08Instrument_c {q : Addr} {x : GInstrument} (R : RdP rInstrument h q x) : CALL prg f_spec_l08Instrument #[.pointer (some q)] (fun u h' => u = .bool x.ok ∧ Ext h h') h := by
  refine spec_l08Instrument.call (R.oS1 fun hs => goE (Ext.refl h) (l08Name_c _ hs _) fun h1 x1 => as_b (brN (fun hn => ⟨by rw [GInstrument.ok, hn]; rfl, x1⟩) fun hn => (R.ext x1).oF fun y hy => goE x1 (between_c hy c1 _) fun h2 x2 => as_b (brN (fun hb => ⟨by rw [GInstrument.ok, hb]; simp, x2⟩) fun hb => ?_)))
  have R2 := R.ext x2
  have k : x.ok = if x.Kind = 1 then inside x.A 0 1056964608 && place x.C else if x.Kind = 2 then place x.A && (feq .f32 x.C 0 || feq .f32 x.C 1065353216) else if x.Kind = 3 then place x.A && fin x.C else false := by rw [GInstrument.ok, hn, hb]; rfl
  refine R2.oI (br (fun e1 => ?_) fun e1 => br (fun e2 => ?_) fun e2 => br (fun e3 => ?_) fun e3 => ?_)
  · rw [if_pos (by simpa using e1)] at k
    refine R2.oF fun y hy => goE x2 (between_c hy c05 _) fun h3 x3 => as_b (br (fun d => ?_) fun d => ⟨by rw [k, d]; rfl, x3⟩)
    exact (R.ext x3).oF fun y hy => goE x3 (below_c hy _) fun h4 x4 => as_b ⟨by rw [k, d]; rfl, x4⟩
  · rw [if_neg (by simpa using e1), if_pos (by simpa using e2)] at k
    refine R2.oF fun y hy => goE x2 (below_c hy _) fun h3 x3 => as_b (br (fun d => ?_) fun d => ⟨by rw [k, d]; rfl, x3⟩)
    refine (R.ext x3).oF fun y hy => ?_
    rw [ord_eq hy fw0]
    refine br (fun d2 => ⟨by rw [k, d, show feq .f32 x.C 0 = true from d2]; rfl, x3⟩) fun d2 => (R.ext x3).oF fun y hy => ?_
    rw [ord_eq hy c1]
    exact ⟨by rw [k, d, show feq .f32 x.C 0 = false from d2]; rfl, x3⟩
  · rw [if_neg (by simpa using e1), if_neg (by simpa using e2), if_pos (by simpa using e3)] at k
    refine R2.oF fun y hy => goE x2 (below_c hy _) fun h3 x3 => as_b (br (fun d => ?_) fun d => ⟨by rw [k, d]; rfl, x3⟩)
    exact (R.ext x3).oF fun y hy => goE x3 (l01Finite_c hy _) fun h4 x4 => as_b ⟨by rw [k, d]; rfl, x4⟩
  · rw [if_neg (by simpa using e1), if_neg (by simpa using e2), if_neg (by simpa using e3)] at k
    exact ⟨by rw [k], x2⟩
theorem ValidInstrument_c {cs : Array Value} {x : GInstrument} (R0 : rInstrument.rd h cs.toList x) : CALL prg f_impl_ValidInstrument #[.agg cs] (fun u h' => u = .bool x.ok ∧ Ext h h') h := by
  refine impl_ValidInstrument.call (alcR R0 fun g h0 x0 R => R.oS2 fun hs => goE (Ext.refl h0) (isName_c _ hs _) fun h1 x1 => as_b (brN (fun hn => ⟨by rw [GInstrument.ok, hn]; rfl, x0.trans x1⟩) fun hn => (R.ext x1).oF2 fun y hy => goE x1 (inside_c hy fw0 c1 _) fun h2 x2 => as_b (brN (fun hb => ⟨by rw [GInstrument.ok, hb]; simp, x0.trans x2⟩) fun hb => ?_)))
  have R2 := R.ext x2
  have k : x.ok = if x.Kind = 1 then inside x.A 0 1056964608 && place x.C else if x.Kind = 2 then place x.A && (feq .f32 x.C 0 || feq .f32 x.C 1065353216) else if x.Kind = 3 then place x.A && fin x.C else false := by rw [GInstrument.ok, hn, hb]; rfl
  refine R2.oI (br (fun e1 => ?_) fun e1 => br (fun e2 => ?_) fun e2 => br (fun e3 => ?_) fun e3 => ?_)
  · rw [if_pos (by simpa using e1)] at k
    refine R2.oF fun y hy => goE x2 (inside_c hy fw0 c05 _) fun h3 x3 => as_b (br (fun d => ?_) fun d => ⟨by rw [k, d]; rfl, x0.trans x3⟩)
    exact (R.ext x3).oF fun y hy => goE x3 (isPlace_c hy _) fun h4 x4 => as_b ⟨by rw [k, d]; rfl, x0.trans x4⟩
  · rw [if_neg (by simpa using e1), if_pos (by simpa using e2)] at k
    refine R2.oF fun y hy => goE x2 (isKeep_c hy _) fun h3 x3 => as_b (br (fun d => ?_) fun d => ⟨by rw [k, d]; rfl, x0.trans x3⟩)
    refine (R.ext x3).oF fun y hy => ?_
    rw [ord_eq hy fw0]
    refine br (fun d2 => ⟨by rw [k, d, show feq .f32 x.C 0 = true from d2]; rfl, x0.trans x3⟩) fun d2 => (R.ext x3).oF fun y hy => ?_
    rw [ord_eq hy c1]
    exact ⟨by rw [k, d, show feq .f32 x.C 0 = false from d2]; rfl, x0.trans x3⟩
  · rw [if_neg (by simpa using e1), if_neg (by simpa using e2), if_pos (by simpa using e3)] at k
    refine R2.oF fun y hy => goE x2 (isKeep_c hy _) fun h3 x3 => as_b (br (fun d => ?_) fun d => ⟨by rw [k, d]; rfl, x0.trans x3⟩)
    exact (R.ext x3).oF fun y hy => goE x3 (isFinite_c hy _) fun h4 x4 => as_b ⟨by rw [k, d]; rfl, x0.trans x4⟩
  · rw [if_neg (by simpa using e1), if_neg (by simpa using e2), if_neg (by simpa using e3)] at k
    exact ⟨by rw [k], x0.trans x2⟩
end
end Go.Sx
