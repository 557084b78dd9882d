/- Voices: the rule's and the program's. -/
import Derived.Test.YteahcankljndlaaGreatDoorLr6
import Derived.Test.YteahcankljndlaaGreatDoorLk21
import Derived.Test.YteahcankljndlaaGreatDoorK9
import Derived.Test.YteahcankljndlaaGreatDoorLp4
import Derived.Test.YteahcankljndlaaGreatDoorLgn
import Derived.Test.YteahcankljndlaaGreatDoorLs1
import Derived.Test.YteahcankljndlaaGreatDoorTab
import Derived.Test.YteahcankljndlaaGreatDoorLf8
set_option linter.unusedVariables false
set_option linter.unusedSimpArgs false
namespace Go.Sx
open Go.Proofs
set_option maxRecDepth 100000
set_option maxHeartbeats 2000000

noncomputable def freeOk (v : GVoice) : Bool := same v.String z_String && same v.Pipe z_Pipe && same v.Bow z_Bow && (v.Instrument == 0) && (v.Born == 0) && !v.Gone && (v.Drive == 0)
noncomputable def bodyOk (s : GScore) (v : GVoice) : Bool :=
  if s.Instruments[v.Instrument.toNat]!.Kind = 1 then v.String.ok && same v.Pipe z_Pipe && same v.Bow z_Bow else if s.Instruments[v.Instrument.toNat]!.Kind = 2 then same v.String z_String && v.Pipe.ok && same v.Bow z_Bow else same v.String z_String && same v.Pipe z_Pipe && v.Bow.ok
noncomputable def voiceOk (s : GScore) (v : GVoice) : Bool := if v.Note = -1 then freeOk v else match startEv s.Events v.Note with | none => false | some e => (e.Instrument == v.Instrument) && (e.At == v.Born) && fin v.Drive && bodyOk s v
theorem first_cases {α : Type} [Inhabited α] (p : α → Bool) (l : List α) : (firstAt p l = -1 ∧ ∀ i, i < l.length → p l[i]! = false) ∨ ∃ n : Nat, n < l.length ∧ firstAt p l = n ∧ (∀ i, i < n → p l[i]! = false) ∧ p l[n]! = true := by
  unfold firstAt
  by_cases h : l.any p = true
  · rw [if_pos h]
    obtain ⟨x, hx, hp⟩ := List.any_eq_true.1 h
    have hlt : l.findIdx p < l.length := List.findIdx_lt_length_of_exists ⟨x, hx, hp⟩
    refine .inr ⟨l.findIdx p, hlt, rfl, fun i hi => ?_, ?_⟩
    · rw [getElem!_pos l i (by omega)]
      have := List.not_of_lt_findIdx hi
      simpa using this
    · rw [getElem!_pos l _ hlt]
      exact List.findIdx_getElem (w := hlt)
  · rw [if_neg h]
    refine .inl ⟨rfl, fun i hi => ?_⟩
    rw [getElem!_pos l i hi]
    rw [Bool.not_eq_true, List.any_eq_false] at h
    have := h _ (List.getElem_mem hi)
    simpa using this
theorem score_ev {s : GScore} (h : s.ok = true) : EvGood s.Events s.Instruments.length := by
  unfold GScore.ok at h
  rw [Bool.and_eq_true] at h
  exact evOk_iff.1 h.2
section
variable {h : Heap}
theorem flat_Event : Flat rEvent := flat_via (flat_seq (flat_I _) (flat_seq (flat_I _) (flat_seq (flat_I _) (flat_seq (flat_I _) (flat_seq (flat_I _) (flat_F _))))))
/-- What a search for a note's start answers. -/
def StartR (h : Heap) (es : List GEvent) (n : Int) (u : Value) : Prop := ∃ cs : Array Value, u = .tuple ⟨[.agg cs, .bool (startEv es n).isSome]⟩ ∧ rEvent.rd h cs.toList ((startEv es n).getD z_Event)
theorem StartR.no {es : List GEvent} {n : Int} (e : startEv es n = none) : StartR h es n (.tuple ⟨[.agg ⟨[.int .i64 (0 : Int), .int .i64 (0 : Int), .int .i64 (0 : Int), .int .i64 (0 : Int), .int .i64 (0 : Int), .float .f32 0]⟩, .bool false]⟩) :=
  ⟨_, by rw [e]; rfl, by rw [e]; exact rEvent.look zow_Event (Mem.start h) (List.nil_sublist _)⟩
theorem StartR.yes {es : List GEvent} {n : Int} {e : GEvent} {cs : Array Value} {h0 : Heap} (he : startEv es n = some e) (R : rEvent.rd h0 cs.toList e) : StartR h es n (.tuple ⟨[.agg cs, .bool true]⟩) :=
  ⟨cs, by rw [he]; rfl, by rw [he]; exact rEvent.look (flat_Event _ _ _ R) (Mem.start h) (List.nil_sublist _)⟩
end
end Go.Sx
/- Strings plucked. -/
set_option linter.unusedVariables false
set_option linter.unusedSimpArgs false
namespace Go.Sx
open Go.Proofs Ieee
set_option maxRecDepth 100000
set_option maxHeartbeats 1000000

/-- Where the sample lies that is the i-th, the oldest being the first. -/
def turnAt (r : GRing) (i : Nat) : Nat := ((r.At + (i : Int)) % r.len).toNat
/-- A ring whose first i samples are changed. -/
def chg (f : Nat → Nat → Nat) (r : GRing) : Nat → GRing
  | 0 => r
  | i + 1 => ⟨(chg f r i).Samples.set (turnAt r i) (f i (chg f r i).Samples[turnAt r i]!), r.At⟩
theorem chg_at (f : Nat → Nat → Nat) (r : GRing) (i : Nat) : (chg f r i).At = r.At := by cases i <;> rfl
theorem chg_len (f : Nat → Nat → Nat) (r : GRing) : ∀ i, (chg f r i).Samples.length = r.Samples.length
  | 0 => rfl
  | i + 1 => by rw [chg, List.length_set]; exact chg_len f r i
def pluckD (n p f i : Nat) : Nat := fmul .f32 f (if flt .f32 (FloatKind.f32.nearest ((i : Nat) : Int)) p then fdiv .f32 (FloatKind.f32.nearest ((i : Nat) : Int)) p else fdiv .f32 (fsub .f32 n (FloatKind.f32.nearest ((i : Nat) : Int))) (fsub .f32 n p))
def pluckF (n p f i a : Nat) : Nat := fadd .f32 a (pluckD n p f i)
def GString.plucked (x : GString) (pl f : Nat) : GString := { x with Loop := chg (pluckF (FloatKind.f32.nearest ((x.Loop.Samples.length : Nat) : Int)) (fmul .f32 pl (FloatKind.f32.nearest ((x.Loop.Samples.length : Nat) : Int))) f) x.Loop x.Loop.Samples.length }
def GString.pluck (x : GString) (pl f : Nat) : GString × Int := if x.ok then if place pl then if fin f then (x.plucked pl f, 0) else (z_String, 2) else (z_String, 2) else (z_String, 1)
/-- A filter's cells by its parts. -/
def flT (v : Int × Nat × Nat × Nat × Nat × Nat) : List Value := flC v.1 v.2.1 v.2.2.1 v.2.2.2.1 v.2.2.2.2.1 v.2.2.2.2.2
theorem flat_Filter' : Flat rFilter := flat_via (flat_seq (flat_I _) (flat_seq (flat_arr _ (flat_F _)) (flat_arr _ (flat_F _))))
theorem filter_cells {h : Heap} {vs : List Value} {f : GFilter} (R : rFilter.rd h vs f) : ∃ v, vs = flT v ∧ rFilter.ow [] (flT v) f := by
  have O := flat_Filter' _ _ _ R
  obtain ⟨v1, r1, e1, e2, v2, v3, rfl, ⟨l2, R2⟩, ⟨l3, R3⟩⟩ := R
  have e2 : v1 = [.int .i64 f.Kind] := e2
  have l2 : f.C.length = 3 := l2
  have l3 : f.S.length = 2 := l3
  obtain ⟨p, q, r, hC⟩ : ∃ p q r, f.C = [p, q, r] := by
    match hf : f.C, l2 with
    | [p, q, r], _ => exact ⟨p, q, r, rfl⟩
  obtain ⟨s, t, hS⟩ : ∃ s t, f.S = [s, t] := by
    match hf : f.S, l3 with
    | [s, t], _ => exact ⟨s, t, rfl⟩
  have R2 : rds (rF .f32) h v2 f.C := R2
  have R3 : rds (rF .f32) h v3 f.S := R3
  rw [hC] at R2
  rw [hS] at R3
  obtain ⟨_, _, rfl, ⟨a, rfl, _⟩, _, _, rfl, ⟨b, rfl, _⟩, _, _, rfl, ⟨c, rfl, _⟩, rfl⟩ := R2
  obtain ⟨_, _, rfl, ⟨d, rfl, _⟩, _, _, rfl, ⟨e, rfl, _⟩, rfl⟩ := R3
  subst e2
  have hv : vs = flT (f.Kind, a, b, c, d, e) := by rw [e1]; rfl
  exact ⟨_, hv, by rw [← hv]; exact O⟩
end Go.Sx
/- Whole parts of periods; new bows. -/
set_option linter.unusedVariables false
set_option linter.unusedSimpArgs false
namespace Go.Sx
open Go.Proofs Ieee
set_option maxRecDepth 100000
set_option maxHeartbeats 1000000

def floorZ (a : Nat) : Int := if flt .f32 a 1232348160 then ((floorN a : Nat) : Int) else 0
def bowN (p : Int) : Int := if p / 8 < 1 then 1 else p / 8
def bowOf (p : Int) (k l s : Nat) : GBow := { Neck := ⟨List.replicate (p - bowN p).toNat 0, 0⟩, Bridge := ⟨List.replicate (bowN p).toNat 0, 0⟩, Damp := onePole k, Slope := s, Loss := l }
def newBow (p : Int) (k l s : Nat) : GBow × Int := if inR p 2 1024 then if place k then if inside l 0 1065353216 then if fin s then (bowOf p k l s, 0) else (z_Bow, 2) else (z_Bow, 2) else (z_Bow, 2) else (z_Bow, 2)
theorem c8 : FW .f32 1040187392 1040187392 := fw_c32 (by decide) (by decide)
theorem bow_ow {x : GBow} {B1 B2 : List Blk} {b1 b2 : Option Addr} {l1 c1 l2 c2 : Nat} {v : List Value} {y z : Nat} (O1 : SlO T_float32 (rF .f32) B1 b1 l1 c1 x.Neck.Samples) (O2 : SlO T_float32 (rF .f32) B2 b2 l2 c2 x.Bridge.Samples) (hv : rFilter.ow [] v x.Damp) (hy : FW .f32 y x.Slope) (hz : FW .f32 z x.Loss) :
    rBow.ow (B1 ++ B2) ([.slice b1 l1 c1, .int .i64 x.Neck.At] ++ ([.slice b2 l2 c2, .int .i64 x.Bridge.At] ++ (v ++ [.float .f32 y, .float .f32 z]))) x :=
  ⟨B1, B2, [.slice b1 l1 c1, .int .i64 x.Neck.At], _, rfl, rfl, ring_ow O1, B2, [], [.slice b2 l2 c2, .int .i64 x.Bridge.At], _, by simp, rfl, ring_ow O2, [], [], v, _, rfl, rfl, hv, [], [], [.float .f32 y], [.float .f32 z], rfl, rfl, ⟨rfl, y, rfl, hy⟩, ⟨rfl, z, rfl, hz⟩⟩
end Go.Sx
/- New bows: the rule's and the program's. -/
set_option linter.unusedVariables false
set_option linter.unusedSimpArgs false
namespace Go.Sx
open Go.Proofs Ieee
set_option maxRecDepth 100000
set_option maxHeartbeats 2000000

section
variable {h : Heap} {x a : Nat}
/-- A slice of zeros made. -/
theorem make_z {n : Nat} {F : Nat → Heap → Prop} {h0 hh : Heap} {L : List Blk} (M : Mem h0 hh L) (hn : n ≤ 1024)
    (H : ∀ g h' B, Ext hh h' → Mem h0 h' (B ++ L) → SlO T_float32 (rF .f32) B (some ⟨g, 0, none⟩) n n (List.replicate n 0) → F g h') : MKS ti_float32 T_float32 (n : Int) (n : Int) F hh :=
  make_sl (r := rF .f32) (z := 0) (zc := [.float .f32 0]) ⟨rfl, 0, rfl, fw0⟩ rfl rfl (by decide) M (by show 4 * n ≤ 2 ^ 48; omega) (Nat.le_trans hn (by decide)) fun g h' x M O => H g h' _ x M O
theorem l00Min_c (a b : Int) : Ret prg f_spec_l00Min #[.int .i64 a, .int .i64 b] (.int .i64 (if a < b then a else b)) := fun h =>
  spec_l00Min.call (brd (fun k => ⟨by rw [if_pos k], Ext.refl _⟩) fun k => ⟨by rw [if_neg k], Ext.refl _⟩)
theorem l00Max_c (a b : Int) : Ret prg f_spec_l00Max #[.int .i64 a, .int .i64 b] (.int .i64 (if b < a then a else b)) := fun h =>
  spec_l00Max.call (brd (fun k => ⟨by rw [if_pos k], Ext.refl _⟩) fun k => ⟨by rw [if_neg k], Ext.refl _⟩)
end
end Go.Sx
/- Cells that stay; blocks changed behind others. -/
set_option linter.unusedVariables false
set_option linter.unusedSimpArgs false
namespace Go.Sx
section
variable {h : Heap}
theorem Upd.skip {B L L' : List Blk} {g : Nat} {cs : Array Value} (k : Upd L g cs L') : Upd (B ++ L) g cs (B ++ L') := by
  induction B with
  | nil => exact k
  | cons p B ih => exact .there ih
end
end Go.Sx
/- New pipes of one section: the rule's. -/
set_option linter.unusedVariables false
set_option linter.unusedSimpArgs false
namespace Go.Sx
open Go.Proofs Ieee
set_option maxRecDepth 100000
set_option maxHeartbeats 2000000

def quietR (n : Int) : GRing := ⟨List.replicate n.toNat 0, 0⟩
def pipeOf (n : Int) (op : Bool) (k l : Nat) : GPipe := { Right := [quietR n], Left := [quietR n], Scatter := [], End := onePole k, Open := op, Loss := l, Rest := 1061158912, Slope := 3200253952 }
def pipeIf (ok : Bool) (n : Int) (op : Bool) (k l : Nat) : GPipe × Int := if ok && inR n 1 1024 then (pipeOf n op k l, 0) else (z_Pipe, 2)
def newPipe (n : Int) (op : Bool) (k l : Nat) : GPipe × Int := pipeIf (place k && inside l 0 1065353216) n op k l
theorem cRest : FW .f32 1061158912 1061158912 := fw_c32 (by decide) (by decide)
end Go.Sx
/- Voices, the program's; how many events have happened. -/
set_option linter.unusedVariables false
set_option linter.unusedSimpArgs false
namespace Go.Sx
open Go.Proofs
set_option maxRecDepth 100000
set_option maxHeartbeats 2000000

/-- How many events lie before a time. -/
def hap (es : List GEvent) (now : Int) : Nat := es.countP fun e => decide (e.At < now)
end Go.Sx
/- Players: the rule's and the program's. -/
set_option linter.unusedVariables false
set_option linter.unusedSimpArgs false
namespace Go.Sx
open Go.Proofs
set_option maxRecDepth 100000
set_option maxHeartbeats 2000000

noncomputable def voicesAt (p : GPlayer) (i : Nat) : Bool := voiceOk p.Score p.Voices[i]! && (decide (p.Voices[i]!.Note < 0) || (decide (p.Voices[i]!.Born < p.Now) && (List.range i).all fun k => !(p.Voices[k]!.Note == p.Voices[i]!.Note)))
noncomputable def GPlayer.ok (p : GPlayer) : Bool := p.Score.ok && inR p.Voices.length 1 6 && inR p.Now 0 200000 && inR p.Skipped 0 64 && (p.Next == (hap p.Score.Events p.Now : Int)) && (List.range p.Voices.length).all (voicesAt p)
end Go.Sx
/- The voice of a start, plain; periods have no sign. -/
set_option linter.unusedVariables false
set_option linter.unusedSimpArgs false
namespace Go.Sx
open Go.Proofs Ieee
set_option maxRecDepth 100000
set_option maxHeartbeats 1000000

def by2 (c : Nat) : Nat := if feq .f32 c 1065353216 then 1073741824 else 1082130432
def baseV (e : GEvent) : GVoice := { z_Voice with Note := e.Note, Instrument := e.Instrument, Born := e.At }
def voiceOf (s : GScore) (e : GEvent) : Option GVoice :=
  let x := s.Instruments[e.Instrument.toNat]!
  let p := s.Tuning.period e.Key s.Rate
  if p.2 = 0 then
    if x.Kind = 1 then
      if (newString p.1 x.A x.B).2 = 0 then
        if ((newString p.1 x.A x.B).1.pluck x.C e.Force).2 = 0 then some { baseV e with String := ((newString p.1 x.A x.B).1.pluck x.C e.Force).1 } else none
      else none
    else if x.Kind = 2 then
      if (newPipe (floorZ (fdiv .f32 p.1 (by2 x.C))) (feq .f32 x.C 1065353216) x.A x.B).2 = 0 then some { baseV e with Pipe := (newPipe (floorZ (fdiv .f32 p.1 (by2 x.C))) (feq .f32 x.C 1065353216) x.A x.B).1, Drive := e.Force } else none
    else if (newBow (floorZ p.1) x.A x.B x.C).2 = 0 then some { baseV e with Bow := (newBow (floorZ p.1) x.A x.B x.C).1, Drive := e.Force } else none
  else none
end Go.Sx
/- Pipes copied. -/
set_option linter.unusedVariables false
set_option linter.unusedSimpArgs false
namespace Go.Sx
open Go.Proofs
set_option maxRecDepth 100000
set_option maxHeartbeats 1000000

/-- All rings of a pipe are of a size that can be copied. -/
structure GPipe.small (x : GPipe) : Prop where
  r : ∀ r ∈ x.Right, r.Samples.length ≤ 1048576
  l : ∀ r ∈ x.Left, r.Samples.length ≤ 1048576
  nr : x.Right.length ≤ 1048576
  nl : x.Left.length ≤ 1048576
  ns : x.Scatter.length ≤ 1048576
end Go.Sx
/- A pipe's step, as the rule makes it. -/
set_option linter.unusedVariables false
set_option linter.unusedSimpArgs false
namespace Go.Sx
open Go.Proofs
set_option maxRecDepth 100000
set_option maxHeartbeats 1000000

/-- What a step of a pipe asks for. -/
structure GPipe.Runs (x : GPipe) : Prop where
  n1 : 1 ≤ x.Right.length
  n3 : x.Right.length ≤ 3
  ll : x.Left.length = x.Right.length
  sl : x.Scatter.length + 1 = x.Right.length
  r : ∀ r ∈ x.Right, r.ok = true
  l : ∀ r ∈ x.Left, r.ok = true
theorem map_get {α β : Type} [Inhabited α] [Inhabited β] {f : α → β} {l : List α} {i : Nat} (h : i < l.length) : (l.map f)[i]! = f l[i]! := by
  rw [getElem!_pos _ i (by rw [List.length_map]; exact h), List.getElem_map, getElem!_pos l i h]
/-- A pipe within a step: the first i rings that run right and j that run left are moved. -/
def GPipe.at (x : GPipe) (b i j : Nat) (e : GFilter) : GPipe := { x with Right := mapI (x.rt b) x.Right i, Left := mapI x.lf x.Left j, End := e }
theorem pstep_eq {x : GPipe} (R : x.Runs) (b : Nat) : x.step b = (x.at b x.Right.length x.Right.length x.e.1, x.e.2) := by
  unfold GPipe.at GPipe.step
  rw [mapI_all (Nat.le_refl _), mapI_all (by rw [R.ll]; exact Nat.le_refl _), R.ll]
  rfl
section
variable {h0 h : Heap} {q : Addr} {F : Fr} {L : List Blk} {x : GPipe} {b i j l c : Nat} {e : GFilter} {bb : Option Addr}
theorem Pt.hd (P : Pt rPipe h0 h q F L x) : ∃ bb l c, cell h q = some (.slice bb l c) ∧ x.Right.length = l := by
  obtain ⟨b, l, c, e, S⟩ := P.hdr1 (e := T_impl_Ring) (s := rRing)
  exact ⟨b, l, c, e, S.len⟩
/-- What a step of a pipe leaves. -/
def PiStep (h0 h' : Heap) (q : Addr) (F : Fr) (L : List Blk) (x : GPipe) (a : Nat) (u : Value) : Prop := (∃ y, u = .float .f32 y ∧ FW .f32 y (x.step a).2) ∧ Pt rPipe h0 h' q F L (x.step a).1
theorem PiStep.of {y : Nat} (R : x.Runs) (hy : FW .f32 y x.e.2) (P : Pt rPipe h0 h q F L (x.at b x.Right.length x.Right.length x.e.1)) : PiStep h0 h q F L x b (.float .f32 y) := by
  unfold PiStep
  rw [pstep_eq R b]
  exact ⟨⟨y, rfl, hy⟩, P⟩
end
end Go.Sx
/- A pipe's step, as the program makes it. -/
set_option linter.unusedVariables false
set_option linter.unusedSimpArgs false
namespace Go.Sx
open Go.Proofs
set_option maxRecDepth 100000
set_option maxHeartbeats 1000000

section
variable {h0 h : Heap} {q : Addr} {F : Fr} {L : List Blk} {x : GPipe} {b : Nat}
theorem Pt.head {α β : Type} {r : Rep α} {e : Nat} {s : Rep β} {get : α → List β} {put : α → List β → α} {a : α} {off : Nat} (P : Pt r h0 h q F L a) [Fc : FocC r off (rSl e s) get put] : ∃ bb l c, cell h (q.add off) = some (.slice bb l c) ∧ SlR s h bb l c (get a) := P.hdr
end
end Go.Sx
/- What functions of this seat's program compute, told in words (a predicate over heaps for each), and the proofs that the words are no more than the code's own weakest precondition. -/
namespace Go.Sx
open Go.Proofs
set_option linter.unusedVariables false
set_option maxRecDepth 100000

def spec_l05CopyBow.S (x_0 : Addr) (Post : Value → Heap → Prop) (h : Heap) : Prop :=
    ALC ⟨Z_impl_Bow⟩ T_impl_Bow (fun g1 h2 =>
    LDA 6 h2 (Addr.add x_0 4) fun a3 =>
    oF .f32 (cell h2 (Addr.add x_0 10)) fun r4 =>
    oF .f32 (cell h2 (Addr.add x_0 11)) fun r5 =>
    CALL prg f_spec_l02Copy #[.pointer (some x_0)] (fun q6 h7 =>
    asA q6 fun a8 =>
    PIN h2 (Addr.add x_0 11) 1 h7 <|
    PIN h2 (Addr.add x_0 10) 1 h7 <|
    PIN h2 (Addr.add x_0 4) 6 h7 <|
    CALL prg f_spec_l02Copy #[.pointer (some (Addr.add x_0 2))] (fun q9 h10 =>
    asA q9 fun a11 =>
    PIN h2 (Addr.add x_0 11) 1 h10 <|
    PIN h2 (Addr.add x_0 10) 1 h10 <|
    PIN h2 (Addr.add x_0 4) 6 h10 <|
    SIZ (Array.size a8) 2 <|
    SIZ (Array.size a11) 2 <|
    SIZ (Array.size a3) 6 <|
    STA 12 h10 ⟨g1, 0, none⟩ ⟨(List.set (List.set (splice 4 6 a3 (splice 2 2 a11 (splice 0 2 a8 [.slice none 0 0, .int .i64 (0 : Int), .slice none 0 0, .int .i64 (0 : Int), .int .i64 (0 : Int), .float .f32 0, .float .f32 0, .float .f32 0, .float .f32 0, .float .f32 0, .float .f32 0, .float .f32 0]))) 10 (.float .f32 r4)) 11 (.float .f32 r5))⟩ fun h12 =>
    LDA 12 h12 ⟨g1, 0, none⟩ fun a13 =>
    Post (.agg a13) h12) h7) h2) h
noncomputable def spec_l05CopyBow.code : Code := (Tryz.f64.body).getD .skip
theorem spec_l05CopyBow.call {x_0 : Addr} {Post : Value → Heap → Prop} {h : Heap} (H : spec_l05CopyBow.S x_0 Post h) : CALL prg f_spec_l05CopyBow #[.pointer (some x_0)] Post h :=
  fn_call tau_ok mixed (c := spec_l05CopyBow.code) (Λ := lookL []) Tryz.func64 (by kernel_rfl) (by kernel_rfl)
    (Rq.free (by kernel_rfl))
    (Eq.mp (by kernel_rfl) H)

def spec_l05Draw.S (x_0 : Addr) (speed_1 : Nat) (Post : Value → Heap → Prop) (h : Heap) : Prop :=
    oL (cell h (Addr.add x_0 2)) fun l1b l1l l1c =>
    oI .i64 (cell h (Addr.add x_0 3)) fun n2 =>
    IDXS l1b n2 l1l fun p3 =>
    oF .f32 (cell h ((Addr.add p3 ((Int.toNat n2) * 1)))) fun r4 =>
    CALL prg f_spec_l02Step #[.pointer (some (Addr.add x_0 4)), .float .f32 r4] (fun q5 h6 =>
    asF .f32 q5 fun r7 =>
    oF .f32 (cell h6 (Addr.add x_0 11)) fun r8 =>
    FOP .f32 (FloatKind.f32.format.mul r8 r7) fun r9 =>
    oL (cell h6 x_0) fun l10b l10l l10c =>
    oI .i64 (cell h6 (Addr.add x_0 1)) fun n11 =>
    IDXS l10b n11 l10l fun p12 =>
    oF .f32 (cell h6 ((Addr.add p12 ((Int.toNat n11) * 1)))) fun r13 =>
    FOP .f32 (FloatKind.f32.format.add (Op.negFloat .f32 r9) (Op.negFloat .f32 r13)) fun r14 =>
    FOP .f32 (FloatKind.f32.format.sub speed_1 r14) fun r15 =>
    Post (.tuple ⟨[.float .f32 (Op.negFloat .f32 r9), .float .f32 (Op.negFloat .f32 r13), .float .f32 r15]⟩) h6) h
noncomputable def spec_l05Draw.code : Code := (Tryz.f108.body).getD .skip
theorem spec_l05Draw.call {x_0 : Addr} {speed_1 : Nat} {Post : Value → Heap → Prop} {h : Heap} (H : spec_l05Draw.S x_0 speed_1 Post h) : CALL prg f_spec_l05Draw #[.pointer (some x_0), .float .f32 speed_1] Post h :=
  fn_call tau_ok mixed (c := spec_l05Draw.code) (Λ := lookL []) Tryz.func108 (by kernel_rfl) (by kernel_rfl)
    (Rq.free (by kernel_rfl))
    (Eq.mp (by kernel_rfl) H)

def spec_l05Friction.S (slope_0 : Nat) (d_1 : Nat) (Post : Value → Heap → Prop) (h : Heap) : Prop :=
    FOP .f32 (FloatKind.f32.format.mul slope_0 d_1) fun r1 =>
    CALL prg f_spec_l01Abs #[.float .f32 r1] (fun q2 h3 =>
    asF .f32 q2 fun r4 =>
    FOP .f32 (FloatKind.f32.format.add r4 1061158912) fun r5 =>
    FOP .f32 (FloatKind.f32.format.mul r5 r5) fun r6 =>
    FOP .f32 (FloatKind.f32.format.mul r6 r6) fun r7 =>
    FOP .f32 (FloatKind.f32.format.div 1065353216 r7) fun r8 =>
    BIF (FloatKind.f32.format.order r8 1065353216 == some .gt) (
    Post (.float .f32 1065353216) h3) (
    Post (.float .f32 r8) h3)) h
noncomputable def spec_l05Friction.code : Code := (Tryz.f109.body).getD .skip
theorem spec_l05Friction.call {slope_0 : Nat} {d_1 : Nat} {Post : Value → Heap → Prop} {h : Heap} (H : spec_l05Friction.S slope_0 d_1 Post h) : CALL prg f_spec_l05Friction #[.float .f32 slope_0, .float .f32 d_1] Post h :=
  fn_call tau_ok mixed (c := spec_l05Friction.code) (Λ := lookL []) Tryz.func109 (by kernel_rfl) (by kernel_rfl)
    (Rq.free (by kernel_rfl))
    (Eq.mp (by kernel_rfl) H)

def spec_l05StepBow.S (x_0 : Addr) (speed_1 : Nat) (Post : Value → Heap → Prop) (h : Heap) : Prop :=
    oL (cell h (Addr.add x_0 2)) fun l1b l1l l1c =>
    oI .i64 (cell h (Addr.add x_0 3)) fun n2 =>
    IDXS l1b n2 l1l fun p3 =>
    oF .f32 (cell h ((Addr.add p3 ((Int.toNat n2) * 1)))) fun r4 =>
    CALL prg f_spec_l05Draw #[.pointer (some x_0), .float .f32 speed_1] (fun q5 h6 =>
    TUP3 q5 fun q7 q8 q9 =>
    asF .f32 q7 fun r10 =>
    asF .f32 q8 fun r11 =>
    asF .f32 q9 fun r12 =>
    oF .f32 (cell h6 (Addr.add x_0 10)) fun r13 =>
    CALL prg f_spec_l05Friction #[.float .f32 r13, .float .f32 r12] (fun q14 h15 =>
    asF .f32 q14 fun r16 =>
    FOP .f32 (FloatKind.f32.format.mul r12 r16) fun r17 =>
    FOP .f32 (FloatKind.f32.format.add r10 r17) fun r18 =>
    CALL prg f_spec_l02Kept #[.float .f32 r18] (fun q19 h20 =>
    asF .f32 q19 fun r21 =>
    CALL prg f_spec_l02Push #[.pointer (some x_0), .float .f32 r21] (fun q22 h23 =>
    asF .f32 q22 fun r24 =>
    FOP .f32 (FloatKind.f32.format.add r11 r17) fun r25 =>
    CALL prg f_spec_l02Kept #[.float .f32 r25] (fun q26 h27 =>
    asF .f32 q26 fun r28 =>
    CALL prg f_spec_l02Push #[.pointer (some (Addr.add x_0 2)), .float .f32 r28] (fun q29 h30 =>
    asF .f32 q29 fun r31 =>
    Post (.float .f32 r4) h30) h27) h23) h20) h15) h6) h
noncomputable def spec_l05StepBow.code : Code := (Tryz.f65.body).getD .skip
theorem spec_l05StepBow.call {x_0 : Addr} {speed_1 : Nat} {Post : Value → Heap → Prop} {h : Heap} (H : spec_l05StepBow.S x_0 speed_1 Post h) : CALL prg f_spec_l05StepBow #[.pointer (some x_0), .float .f32 speed_1] Post h :=
  fn_call tau_ok mixed (c := spec_l05StepBow.code) (Λ := lookL []) Tryz.func65 (by kernel_rfl) (by kernel_rfl)
    (Rq.free (by kernel_rfl))
    (Eq.mp (by kernel_rfl) H)

def impl_Bow_clone.S (x_0 : Array Value) (Post : Value → Heap → Prop) (h : Heap) : Prop :=
    ALC x_0 T_impl_Bow (fun g1 h2 =>
    ALC ⟨Z_impl_Bow⟩ T_impl_Bow (fun g3 h4 =>
    LDA 2 h4 ⟨g1, 0, none⟩ fun a5 =>
    LDA 2 h4 ⟨g1, 2, none⟩ fun a6 =>
    CALL prg f_impl_Ring_clone #[.agg a5] (fun q7 h8 =>
    asA q7 fun a9 =>
    PIN h4 ⟨g1, 2, none⟩ 2 h8 <|
    CALL prg f_impl_Ring_clone #[.agg a6] (fun q10 h11 =>
    asA q10 fun a12 =>
    STA 2 h11 ⟨g1, 0, none⟩ a9 fun h13 =>
    STA 2 h13 ⟨g1, 2, none⟩ a12 fun h14 =>
    LDA 12 h14 ⟨g1, 0, none⟩ fun a15 =>
    STA 12 h14 ⟨g3, 0, none⟩ a15 fun h16 =>
    LDA 12 h16 ⟨g3, 0, none⟩ fun a17 =>
    Post (.agg a17) h16) h8) h4) h2) h
noncomputable def impl_Bow_clone.code : Code := (Tryz.f61.body).getD .skip
theorem impl_Bow_clone.call {x_0 : Array Value} {Post : Value → Heap → Prop} {h : Heap} (H : impl_Bow_clone.S x_0 Post h) : CALL prg f_impl_Bow_clone #[.agg x_0] Post h :=
  fn_call tau_ok mixed (c := impl_Bow_clone.code) (Λ := lookL []) Tryz.func61 (by kernel_rfl) (by kernel_rfl)
    (Rq.free (by kernel_rfl))
    (Eq.mp (by kernel_rfl) H)

def p_impl_Bow_meet.S (x_0 : Addr) (speed_1 : Nat) (Post : Value → Heap → Prop) (h : Heap) : Prop :=
    LDA 2 h (Addr.add x_0 2) fun a1 =>
    CALL prg f_impl_Ring_oldest #[.agg a1] (fun q2 h3 =>
    asF .f32 q2 fun r4 =>
    CALL prg f_p_impl_Filter_step #[.pointer (some (Addr.add x_0 4)), .float .f32 r4] (fun q5 h6 =>
    asF .f32 q5 fun r7 =>
    oF .f32 (cell h6 (Addr.add x_0 11)) fun r8 =>
    LDA 2 h6 x_0 fun a9 =>
    (FOP .f32 (FloatKind.f32.format.mul r8 r7) fun r10 =>
    PIN h6 x_0 2 h6 <|
    CALL prg f_impl_Ring_oldest #[.agg a9] (fun q11 h12 =>
    asF .f32 q11 fun r13 =>
    PIN h6 (Addr.add x_0 11) 1 h12 <|
    FOP .f32 (FloatKind.f32.format.add (Op.negFloat .f32 r10) (Op.negFloat .f32 r13)) fun r14 =>
    FOP .f32 (FloatKind.f32.format.sub speed_1 r14) fun r15 =>
    Post (.tuple ⟨[.float .f32 (Op.negFloat .f32 r10), .float .f32 (Op.negFloat .f32 r13), .float .f32 r15]⟩) h12) h6) ∧ (CALL prg f_impl_Ring_oldest #[.agg a9] (fun q16 h17 =>
    asF .f32 q16 fun r18 =>
    PIN h6 (Addr.add x_0 11) 1 h17 <|
    FOP .f32 (FloatKind.f32.format.mul r8 r7) fun r19 =>
    PIN h6 x_0 2 h17 <|
    FOP .f32 (FloatKind.f32.format.add (Op.negFloat .f32 r19) (Op.negFloat .f32 r18)) fun r20 =>
    FOP .f32 (FloatKind.f32.format.sub speed_1 r20) fun r21 =>
    Post (.tuple ⟨[.float .f32 (Op.negFloat .f32 r19), .float .f32 (Op.negFloat .f32 r18), .float .f32 r21]⟩) h17) h6)) h3) h
noncomputable def p_impl_Bow_meet.code : Code := (Tryz.f106.body).getD .skip
theorem p_impl_Bow_meet.call {x_0 : Addr} {speed_1 : Nat} {Post : Value → Heap → Prop} {h : Heap} (H : p_impl_Bow_meet.S x_0 speed_1 Post h) : CALL prg f_p_impl_Bow_meet #[.pointer (some x_0), .float .f32 speed_1] Post h :=
  fn_call tau_ok mixed (c := p_impl_Bow_meet.code) (Λ := lookL []) Tryz.func106 (by kernel_rfl) (by kernel_rfl)
    (Rq.free (by kernel_rfl))
    (Eq.mp (by kernel_rfl) H)

def impl_FrictionAt.S (slope_0 : Nat) (difference_1 : Nat) (Post : Value → Heap → Prop) (h : Heap) : Prop :=
    FOP .f32 (FloatKind.f32.format.mul slope_0 difference_1) fun r1 =>
    CALL prg f_impl_absolute #[.float .f32 r1] (fun q2 h3 =>
    asF .f32 q2 fun r4 =>
    FOP .f32 (FloatKind.f32.format.add r4 1061158912) fun r5 =>
    FOP .f32 (FloatKind.f32.format.mul r5 r5) fun r6 =>
    FOP .f32 (FloatKind.f32.format.mul r6 r6) fun r7 =>
    FOP .f32 (FloatKind.f32.format.div 1065353216 r7) fun r8 =>
    BIF (FloatKind.f32.format.order r8 1065353216 == some .gt) (
    Post (.float .f32 1065353216) h3) (
    Post (.float .f32 r8) h3)) h
noncomputable def impl_FrictionAt.code : Code := (Tryz.f107.body).getD .skip
theorem impl_FrictionAt.call {slope_0 : Nat} {difference_1 : Nat} {Post : Value → Heap → Prop} {h : Heap} (H : impl_FrictionAt.S slope_0 difference_1 Post h) : CALL prg f_impl_FrictionAt #[.float .f32 slope_0, .float .f32 difference_1] Post h :=
  fn_call tau_ok mixed (c := impl_FrictionAt.code) (Λ := lookL []) Tryz.func107 (by kernel_rfl) (by kernel_rfl)
    (Rq.free (by kernel_rfl))
    (Eq.mp (by kernel_rfl) H)

def p_impl_Bow_step.S (x_0 : Addr) (speed_1 : Nat) (Post : Value → Heap → Prop) (h : Heap) : Prop :=
    LDA 2 h (Addr.add x_0 2) fun a1 =>
    CALL prg f_impl_Ring_oldest #[.agg a1] (fun q2 h3 =>
    asF .f32 q2 fun r4 =>
    CALL prg f_p_impl_Bow_meet #[.pointer (some x_0), .float .f32 speed_1] (fun q5 h6 =>
    TUP3 q5 fun q7 q8 q9 =>
    asF .f32 q7 fun r10 =>
    asF .f32 q8 fun r11 =>
    asF .f32 q9 fun r12 =>
    oF .f32 (cell h6 (Addr.add x_0 10)) fun r13 =>
    CALL prg f_impl_FrictionAt #[.float .f32 r13, .float .f32 r12] (fun q14 h15 =>
    asF .f32 q14 fun r16 =>
    FOP .f32 (FloatKind.f32.format.mul r12 r16) fun r17 =>
    FOP .f32 (FloatKind.f32.format.add r10 r17) fun r18 =>
    CALL prg f_impl_kept #[.float .f32 r18] (fun q19 h20 =>
    asF .f32 q19 fun r21 =>
    CALL prg f_p_impl_Ring_push #[.pointer (some x_0), .float .f32 r21] (fun q22 h23 =>
    asF .f32 q22 fun r24 =>
    FOP .f32 (FloatKind.f32.format.add r11 r17) fun r25 =>
    CALL prg f_impl_kept #[.float .f32 r25] (fun q26 h27 =>
    asF .f32 q26 fun r28 =>
    CALL prg f_p_impl_Ring_push #[.pointer (some (Addr.add x_0 2)), .float .f32 r28] (fun q29 h30 =>
    asF .f32 q29 fun r31 =>
    Post (.float .f32 r4) h30) h27) h23) h20) h15) h6) h3) h
noncomputable def p_impl_Bow_step.code : Code := (Tryz.f62.body).getD .skip
theorem p_impl_Bow_step.call {x_0 : Addr} {speed_1 : Nat} {Post : Value → Heap → Prop} {h : Heap} (H : p_impl_Bow_step.S x_0 speed_1 Post h) : CALL prg f_p_impl_Bow_step #[.pointer (some x_0), .float .f32 speed_1] Post h :=
  fn_call tau_ok mixed (c := p_impl_Bow_step.code) (Λ := lookL []) Tryz.func62 (by kernel_rfl) (by kernel_rfl)
    (Rq.free (by kernel_rfl))
    (Eq.mp (by kernel_rfl) H)

end Go.Sx
