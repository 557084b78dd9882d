/- Strings plucked. -/
import Derived.Test.YtgbjfohgmpmjoaaGreatDoorLk43
import Derived.Test.YtgbjfohgmpmjoaaGreatDoorLk21
import Derived.Test.YtgbjfohgmpmjoaaGreatDoorLp6
import Derived.Test.YtgbjfohgmpmjoaaGreatDoorLk4
import Derived.Test.YtgbjfohgmpmjoaaGreatDoorK2
import Derived.Test.YtgbjfohgmpmjoaaGreatDoorTab
import Derived.Test.YtgbjfohgmpmjoaaGreatDoorLk13
set_option linter.unusedVariables false
set_option linter.unusedSimpArgs false
namespace Go.Sx
open Go.Proofs Ieee
set_option maxRecDepth 100000
set_option maxHeartbeats 1000000

/-- Where the sample lies that is the i-th, the oldest being the first. -/
def turnAt (r : GRing) (i : Nat) : Nat := ((r.At + (i : Int)) % r.len).toNat
/-- A ring whose first i samples are changed. -/
def chg (f : Nat → Nat → Nat) (r : GRing) : Nat → GRing
  | 0 => r
  | i + 1 => ⟨(chg f r i).Samples.set (turnAt r i) (f i (chg f r i).Samples[turnAt r i]!), r.At⟩
theorem chg_at (f : Nat → Nat → Nat) (r : GRing) (i : Nat) : (chg f r i).At = r.At := by cases i <;> rfl
theorem chg_len (f : Nat → Nat → Nat) (r : GRing) : ∀ i, (chg f r i).Samples.length = r.Samples.length
  | 0 => rfl
  | i + 1 => by rw [chg, List.length_set]; exact chg_len f r i
def pluckD (n p f i : Nat) : Nat := fmul .f32 f (if flt .f32 (FloatKind.f32.nearest ((i : Nat) : Int)) p then fdiv .f32 (FloatKind.f32.nearest ((i : Nat) : Int)) p else fdiv .f32 (fsub .f32 n (FloatKind.f32.nearest ((i : Nat) : Int))) (fsub .f32 n p))
def pluckF (n p f i a : Nat) : Nat := fadd .f32 a (pluckD n p f i)
def GString.plucked (x : GString) (pl f : Nat) : GString := { x with Loop := chg (pluckF (FloatKind.f32.nearest ((x.Loop.Samples.length : Nat) : Int)) (fmul .f32 pl (FloatKind.f32.nearest ((x.Loop.Samples.length : Nat) : Int))) f) x.Loop x.Loop.Samples.length }
def GString.pluck (x : GString) (pl f : Nat) : GString × Int := if x.ok then if place pl then if fin f then (x.plucked pl f, 0) else (z_String, 2) else (z_String, 2) else (z_String, 1)
/-- A filter's cells by its parts. -/
def flT (v : Int × Nat × Nat × Nat × Nat × Nat) : List Value := flC v.1 v.2.1 v.2.2.1 v.2.2.2.1 v.2.2.2.2.1 v.2.2.2.2.2
theorem flat_Filter' : Flat rFilter := flat_via (flat_seq (flat_I _) (flat_seq (flat_arr _ (flat_F _)) (flat_arr _ (flat_F _))))
theorem filter_cells {h : Heap} {vs : List Value} {f : GFilter} (R : rFilter.rd h vs f) : ∃ v, vs = flT v ∧ rFilter.ow [] (flT v) f := by
  have O := flat_Filter' _ _ _ R
  obtain ⟨v1, r1, e1, e2, v2, v3, rfl, ⟨l2, R2⟩, ⟨l3, R3⟩⟩ := R
  have e2 : v1 = [.int .i64 f.Kind] := e2
  have l2 : f.C.length = 3 := l2
  have l3 : f.S.length = 2 := l3
  obtain ⟨p, q, r, hC⟩ : ∃ p q r, f.C = [p, q, r] := by
    match hf : f.C, l2 with
    | [p, q, r], _ => exact ⟨p, q, r, rfl⟩
  obtain ⟨s, t, hS⟩ : ∃ s t, f.S = [s, t] := by
    match hf : f.S, l3 with
    | [s, t], _ => exact ⟨s, t, rfl⟩
  have R2 : rds (rF .f32) h v2 f.C := R2
  have R3 : rds (rF .f32) h v3 f.S := R3
  rw [hC] at R2
  rw [hS] at R3
  obtain ⟨_, _, rfl, ⟨a, rfl, _⟩, _, _, rfl, ⟨b, rfl, _⟩, _, _, rfl, ⟨c, rfl, _⟩, rfl⟩ := R2
  obtain ⟨_, _, rfl, ⟨d, rfl, _⟩, _, _, rfl, ⟨e, rfl, _⟩, rfl⟩ := R3
  subst e2
  have hv : vs = flT (f.Kind, a, b, c, d, e) := by rw [e1]; rfl
  exact ⟨_, hv, by rw [← hv]; exact O⟩
def stL (b : Option Addr) (l c : Nat) (t : Int) (v1 v2 : Int × Nat × Nat × Nat × Nat × Nat) (y : Nat) : List Value := [.slice b l c, .int .i64 t] ++ (flT v1 ++ (flT v2 ++ [.float .f32 y]))
theorem string_cells {h : Heap} {cs : Array Value} {x : GString} (R : rString.rd h cs.toList x) : ∃ b l c v1 v2 y, cs = ⟨stL b l c x.Loop.At v1 v2 y⟩ ∧ SlR (rF .f32) h b l c x.Loop.Samples ∧ rFilter.ow [] (flT v1) x.Tune ∧ rFilter.ow [] (flT v2) x.Damp ∧ FW .f32 y x.Loss := by
  obtain ⟨w1, r1, e1, ⟨u1, u2, rfl, ⟨b, l, c, rfl, S⟩, hat⟩, w2, r2, rfl, F1, w3, w4, rfl, F2, ⟨y, rfl, Fy⟩⟩ := R
  have hat : u2 = [.int .i64 x.Loop.At] := hat
  subst hat
  obtain ⟨v1, rfl, O1⟩ := filter_cells F1
  obtain ⟨v2, rfl, O2⟩ := filter_cells F2
  exact ⟨b, l, c, v1, v2, y, by cases cs; simpa [stL] using e1, S, O1, O2, Fy⟩
theorem stL_one {b : Option Addr} {l c : Nat} {t : Int} {v1 v2 : Int × Nat × Nat × Nat × Nat × Nat} {y : Nat} : ∀ v ∈ (⟨stL b l c t v1 v2 y⟩ : Array Value).toList, v.oneCell' = true := all_one rfl
section
variable {h : Heap} {x a : Nat}
theorem String_clone_c {cs : Array Value} {x : GString} (R0 : rString.rd h cs.toList x) (hl : x.Loop.Samples.length ≤ 1048576) : CALL prg f_impl_String_clone #[.agg cs] (fun u h' => NewR rString h h' u x) h := by
  obtain ⟨b, l, c, v1, v2, y, rfl, S, O1, O2, hy⟩ := string_cells R0
  refine impl_String_clone.call ((Mem.start h).alc fun g1 h1 x1 M => M.alc fun g3 h2 x2 M => ?_)
  have R : RdP rString h2 ⟨g1, 0, none⟩ x := M.rdp (.there .here) (rString.ext M.ext R0)
  refine (R.fst foc_String_Loop).lda1 rfl fun a5 R5 => NewR.go M (Ring_clone_c R5 hl) fun h7 a8 B8 M O8 s8 => as_a ?_
  obtain ⟨b', l', c', rfl, OS⟩ := ring_cells O8
  have M := M.cnt (W := (g1, T_impl_String, ⟨stL b l c x.Loop.At v1 v2 y⟩) :: (g3, T_impl_String, ⟨Z_impl_String⟩) :: B8) (fun p => by simp only [List.append_eq, cnt_app, cnt_cons, cnt_nil] at *; omega)
  refine M.sta .here rfl (all_one rfl) (by show 0 + 2 ≤ 15; decide) .here fun h9 M => ?_
  have M : Mem h h9 ((g1, T_impl_String, ⟨stL b' l' c' x.Loop.At v1 v2 y⟩) :: (g3, T_impl_String, ⟨Z_impl_String⟩) :: B8) := M
  exact M.lda0 .here rfl (M.sta0 (.there .here) rfl stL_one rfl (.there .here) fun h10 M => M.lda0 (.there .here) rfl ⟨_, B8, rfl, string_ow (x := x) OS O1 O2 hy, M.drop.drop⟩)
theorem gstr_ring {x : GString} (h : x.ok = true) : x.Loop.ok = true := by
  unfold GString.ok at h
  simp only [Bool.and_eq_true] at h
  exact h.1.1.1
end
end Go.Sx
/- Whole parts of periods; new bows. -/
set_option linter.unusedVariables false
set_option linter.unusedSimpArgs false
namespace Go.Sx
open Go.Proofs Ieee
set_option maxRecDepth 100000
set_option maxHeartbeats 1000000

def floorZ (a : Nat) : Int := if flt .f32 a 1232348160 then ((floorN a : Nat) : Int) else 0
def bowN (p : Int) : Int := if p / 8 < 1 then 1 else p / 8
def bowOf (p : Int) (k l s : Nat) : GBow := { Neck := ⟨List.replicate (p - bowN p).toNat 0, 0⟩, Bridge := ⟨List.replicate (bowN p).toNat 0, 0⟩, Damp := onePole k, Slope := s, Loss := l }
def newBow (p : Int) (k l s : Nat) : GBow × Int := if inR p 2 1024 then if place k then if inside l 0 1065353216 then if fin s then (bowOf p k l s, 0) else (z_Bow, 2) else (z_Bow, 2) else (z_Bow, 2) else (z_Bow, 2)
theorem c8 : FW .f32 1040187392 1040187392 := fw_c32 (by decide) (by decide)
end Go.Sx
/- Cells that stay; blocks changed behind others. -/
set_option linter.unusedVariables false
set_option linter.unusedSimpArgs false
namespace Go.Sx
section
variable {h : Heap}
theorem Upd.skip {B L L' : List Blk} {g : Nat} {cs : Array Value} (k : Upd L g cs L') : Upd (B ++ L) g cs (B ++ L') := by
  induction B with
  | nil => exact k
  | cons p B ih => exact .there ih
end
end Go.Sx
/- New pipes of one section: the rule's. -/
set_option linter.unusedVariables false
set_option linter.unusedSimpArgs false
namespace Go.Sx
open Go.Proofs Ieee
set_option maxRecDepth 100000
set_option maxHeartbeats 2000000

def quietR (n : Int) : GRing := ⟨List.replicate n.toNat 0, 0⟩
def pipeOf (n : Int) (op : Bool) (k l : Nat) : GPipe := { Right := [quietR n], Left := [quietR n], Scatter := [], End := onePole k, Open := op, Loss := l, Rest := 1061158912, Slope := 3200253952 }
def pipeIf (ok : Bool) (n : Int) (op : Bool) (k l : Nat) : GPipe × Int := if ok && inR n 1 1024 then (pipeOf n op k l, 0) else (z_Pipe, 2)
def newPipe (n : Int) (op : Bool) (k l : Nat) : GPipe × Int := pipeIf (place k && inside l 0 1065353216) n op k l
end Go.Sx
/- Voices, the program's; how many events have happened. -/
set_option linter.unusedVariables false
set_option linter.unusedSimpArgs false
namespace Go.Sx
open Go.Proofs
set_option maxRecDepth 100000
set_option maxHeartbeats 2000000

/-- How many events lie before a time. -/
def hap (es : List GEvent) (now : Int) : Nat := es.countP fun e => decide (e.At < now)
end Go.Sx
/- Players: the rule's and the program's. -/
set_option linter.unusedVariables false
set_option linter.unusedSimpArgs false
namespace Go.Sx
open Go.Proofs
set_option maxRecDepth 100000
set_option maxHeartbeats 2000000

noncomputable def voicesAt (p : GPlayer) (i : Nat) : Bool := voiceOk p.Score p.Voices[i]! && (decide (p.Voices[i]!.Note < 0) || (decide (p.Voices[i]!.Born < p.Now) && (List.range i).all fun k => !(p.Voices[k]!.Note == p.Voices[i]!.Note)))
noncomputable def GPlayer.ok (p : GPlayer) : Bool := p.Score.ok && inR p.Voices.length 1 6 && inR p.Now 0 200000 && inR p.Skipped 0 64 && (p.Next == (hap p.Score.Events p.Now : Int)) && (List.range p.Voices.length).all (voicesAt p)
end Go.Sx
/- The voice of a start, plain; periods have no sign. -/
set_option linter.unusedVariables false
set_option linter.unusedSimpArgs false
namespace Go.Sx
open Go.Proofs Ieee
set_option maxRecDepth 100000
set_option maxHeartbeats 1000000

def by2 (c : Nat) : Nat := if feq .f32 c 1065353216 then 1073741824 else 1082130432
def baseV (e : GEvent) : GVoice := { z_Voice with Note := e.Note, Instrument := e.Instrument, Born := e.At }
def voiceOf (s : GScore) (e : GEvent) : Option GVoice :=
  let x := s.Instruments[e.Instrument.toNat]!
  let p := s.Tuning.period e.Key s.Rate
  if p.2 = 0 then
    if x.Kind = 1 then
      if (newString p.1 x.A x.B).2 = 0 then
        if ((newString p.1 x.A x.B).1.pluck x.C e.Force).2 = 0 then some { baseV e with String := ((newString p.1 x.A x.B).1.pluck x.C e.Force).1 } else none
      else none
    else if x.Kind = 2 then
      if (newPipe (floorZ (fdiv .f32 p.1 (by2 x.C))) (feq .f32 x.C 1065353216) x.A x.B).2 = 0 then some { baseV e with Pipe := (newPipe (floorZ (fdiv .f32 p.1 (by2 x.C))) (feq .f32 x.C 1065353216) x.A x.B).1, Drive := e.Force } else none
    else if (newBow (floorZ p.1) x.A x.B x.C).2 = 0 then some { baseV e with Bow := (newBow (floorZ p.1) x.A x.B x.C).1, Drive := e.Force } else none
  else none
end Go.Sx
/- Pipes copied. -/
set_option linter.unusedVariables false
set_option linter.unusedSimpArgs false
namespace Go.Sx
open Go.Proofs
set_option maxRecDepth 100000
set_option maxHeartbeats 1000000

/-- All rings of a pipe are of a size that can be copied. -/
structure GPipe.small (x : GPipe) : Prop where
  r : ∀ r ∈ x.Right, r.Samples.length ≤ 1048576
  l : ∀ r ∈ x.Left, r.Samples.length ≤ 1048576
  nr : x.Right.length ≤ 1048576
  nl : x.Left.length ≤ 1048576
  ns : x.Scatter.length ≤ 1048576
end Go.Sx
/- A pipe's step, as the rule makes it. -/
set_option linter.unusedVariables false
set_option linter.unusedSimpArgs false
namespace Go.Sx
open Go.Proofs
set_option maxRecDepth 100000
set_option maxHeartbeats 1000000

/-- What a step of a pipe asks for. -/
structure GPipe.Runs (x : GPipe) : Prop where
  n1 : 1 ≤ x.Right.length
  n3 : x.Right.length ≤ 3
  ll : x.Left.length = x.Right.length
  sl : x.Scatter.length + 1 = x.Right.length
  r : ∀ r ∈ x.Right, r.ok = true
  l : ∀ r ∈ x.Left, r.ok = true
theorem map_get {α β : Type} [Inhabited α] [Inhabited β] {f : α → β} {l : List α} {i : Nat} (h : i < l.length) : (l.map f)[i]! = f l[i]! := by
  rw [getElem!_pos _ i (by rw [List.length_map]; exact h), List.getElem_map, getElem!_pos l i h]
/-- A pipe within a step: the first i rings that run right and j that run left are moved. -/
def GPipe.at (x : GPipe) (b i j : Nat) (e : GFilter) : GPipe := { x with Right := mapI (x.rt b) x.Right i, Left := mapI x.lf x.Left j, End := e }
theorem pstep_eq {x : GPipe} (R : x.Runs) (b : Nat) : x.step b = (x.at b x.Right.length x.Right.length x.e.1, x.e.2) := by
  unfold GPipe.at GPipe.step
  rw [mapI_all (Nat.le_refl _), mapI_all (by rw [R.ll]; exact Nat.le_refl _), R.ll]
  rfl
section
variable {h0 h : Heap} {q : Addr} {F : Fr} {L : List Blk} {x : GPipe} {b i j l c : Nat} {e : GFilter} {bb : Option Addr}
theorem Pt.hd (P : Pt rPipe h0 h q F L x) : ∃ bb l c, cell h q = some (.slice bb l c) ∧ x.Right.length = l := by
  obtain ⟨b, l, c, e, S⟩ := P.hdr1 (e := T_impl_Ring) (s := rRing)
  exact ⟨b, l, c, e, S.len⟩
/-- What a step of a pipe leaves. -/
def PiStep (h0 h' : Heap) (q : Addr) (F : Fr) (L : List Blk) (x : GPipe) (a : Nat) (u : Value) : Prop := (∃ y, u = .float .f32 y ∧ FW .f32 y (x.step a).2) ∧ Pt rPipe h0 h' q F L (x.step a).1
theorem PiStep.of {y : Nat} (R : x.Runs) (hy : FW .f32 y x.e.2) (P : Pt rPipe h0 h q F L (x.at b x.Right.length x.Right.length x.e.1)) : PiStep h0 h q F L x b (.float .f32 y) := by
  unfold PiStep
  rw [pstep_eq R b]
  exact ⟨⟨y, rfl, hy⟩, P⟩
end
end Go.Sx
/- A pipe's step, as the program makes it. -/
set_option linter.unusedVariables false
set_option linter.unusedSimpArgs false
namespace Go.Sx
open Go.Proofs
set_option maxRecDepth 100000
set_option maxHeartbeats 1000000

section
variable {h0 h : Heap} {q : Addr} {F : Fr} {L : List Blk} {x : GPipe} {b : Nat}
theorem Pt.head {α β : Type} {r : Rep α} {e : Nat} {s : Rep β} {get : α → List β} {put : α → List β → α} {a : α} {off : Nat} (P : Pt r h0 h q F L a) [Fc : FocC r off (rSl e s) get put] : ∃ bb l c, cell h (q.add off) = some (.slice bb l c) ∧ SlR s h bb l c (get a) := P.hdr
end
end Go.Sx
/- What functions of this seat's program compute, told in words (a predicate over heaps for each), and the proofs that the words are no more than the code's own weakest precondition. -/
namespace Go.Sx
open Go.Proofs
set_option linter.unusedVariables false
set_option maxRecDepth 100000

def spec_l03Step.S (x_0 : Addr) (in_1 : Nat) (Post : Value → Heap → Prop) (h : Heap) : Prop :=
    oL (cell h x_0) fun l1b l1l l1c =>
    oI .i64 (cell h (Addr.add x_0 1)) fun n2 =>
    IDXS l1b n2 l1l fun p3 =>
    oF .f32 (cell h ((Addr.add p3 ((Int.toNat n2) * 1)))) fun r4 =>
    CALL prg f_spec_l02Step #[.pointer (some (Addr.add x_0 2)), .float .f32 r4] (fun q5 h6 =>
    asF .f32 q5 fun r7 =>
    CALL prg f_spec_l02Step #[.pointer (some (Addr.add x_0 8)), .float .f32 r7] (fun q8 h9 =>
    asF .f32 q8 fun r10 =>
    oF .f32 (cell h9 (Addr.add x_0 14)) fun r11 =>
    FOP .f32 (FloatKind.f32.format.mul r10 r11) fun r12 =>
    FOP .f32 (FloatKind.f32.format.add r12 in_1) fun r13 =>
    CALL prg f_spec_l02Kept #[.float .f32 r13] (fun q14 h15 =>
    asF .f32 q14 fun r16 =>
    CALL prg f_spec_l02Push #[.pointer (some x_0), .float .f32 r16] (fun q17 h18 =>
    asF .f32 q17 fun r19 =>
    Post (.float .f32 r4) h18) h15) h9) h6) h
noncomputable def spec_l03Step.code : Code := (Tryz.f99.body).getD .skip
theorem spec_l03Step.call {x_0 : Addr} {in_1 : Nat} {Post : Value → Heap → Prop} {h : Heap} (H : spec_l03Step.S x_0 in_1 Post h) : CALL prg f_spec_l03Step #[.pointer (some x_0), .float .f32 in_1] Post h :=
  fn_call tau_ok mixed (c := spec_l03Step.code) (Λ := lookL []) Tryz.func99 (by kernel_rfl) (by kernel_rfl)
    (Rq.free (by kernel_rfl))
    (Eq.mp (by kernel_rfl) H)

def p_impl_String_step.S (x_0 : Addr) (in_1 : Nat) (Post : Value → Heap → Prop) (h : Heap) : Prop :=
    LDA 2 h x_0 fun a1 =>
    oL (cell h x_0) fun l2b l2l l2c =>
    CALL prg f_impl_length_float32 #[.slice l2b l2l l2c] (fun q3 h4 =>
    asI .i64 q3 fun n5 =>
    PIN h x_0 2 h4 <|
    CALL prg f_impl_Ring_back #[.agg a1, .int .i64 n5] (fun q6 h7 =>
    asF .f32 q6 fun r8 =>
    CALL prg f_p_impl_Filter_step #[.pointer (some (Addr.add x_0 2)), .float .f32 r8] (fun q9 h10 =>
    asF .f32 q9 fun r11 =>
    CALL prg f_p_impl_Filter_step #[.pointer (some (Addr.add x_0 8)), .float .f32 r11] (fun q12 h13 =>
    asF .f32 q12 fun r14 =>
    oF .f32 (cell h13 (Addr.add x_0 14)) fun r15 =>
    FOP .f32 (FloatKind.f32.format.mul r14 r15) fun r16 =>
    FOP .f32 (FloatKind.f32.format.add r16 in_1) fun r17 =>
    CALL prg f_impl_kept #[.float .f32 r17] (fun q18 h19 =>
    asF .f32 q18 fun r20 =>
    CALL prg f_p_impl_Ring_push #[.pointer (some x_0), .float .f32 r20] (fun q21 h22 =>
    asF .f32 q21 fun r23 =>
    Post (.float .f32 r8) h22) h19) h13) h10) h7) h4) h
noncomputable def p_impl_String_step.code : Code := (Tryz.f56.body).getD .skip
theorem p_impl_String_step.call {x_0 : Addr} {in_1 : Nat} {Post : Value → Heap → Prop} {h : Heap} (H : p_impl_String_step.S x_0 in_1 Post h) : CALL prg f_p_impl_String_step #[.pointer (some x_0), .float .f32 in_1] Post h :=
  fn_call tau_ok mixed (c := p_impl_String_step.code) (Λ := lookL []) Tryz.func56 (by kernel_rfl) (by kernel_rfl)
    (Rq.free (by kernel_rfl))
    (Eq.mp (by kernel_rfl) H)

def impl_String_isSilent.S (x_0 : Array Value) (Post : Value → Heap → Prop) (h : Heap) : Prop :=
    ALC x_0 T_impl_String (fun g1 h2 =>
    LDA 2 h2 ⟨g1, 0, none⟩ fun a3 =>
    CALL prg f_impl_Ring_isQuiet #[.agg a3] (fun q4 h5 =>
    asB q4 fun b6 =>
    BIF b6 (
    LDA 6 h5 ⟨g1, 2, none⟩ fun a7 =>
    CALL prg f_impl_Filter_isStill #[.agg a7] (fun q8 h9 =>
    asB q8 fun b10 =>
    BIF b10 (
    LDA 6 h9 ⟨g1, 8, none⟩ fun a11 =>
    CALL prg f_impl_Filter_isStill #[.agg a11] (fun q12 h13 =>
    asB q12 fun b14 =>
    Post (.bool b14) h13) h9) (
    Post (.bool false) h9)) h5) (
    Post (.bool false) h5)) h2) h
noncomputable def impl_String_isSilent.code : Code := (Tryz.f72.body).getD .skip
theorem impl_String_isSilent.call {x_0 : Array Value} {Post : Value → Heap → Prop} {h : Heap} (H : impl_String_isSilent.S x_0 Post h) : CALL prg f_impl_String_isSilent #[.agg x_0] Post h :=
  fn_call tau_ok mixed (c := impl_String_isSilent.code) (Λ := lookL []) Tryz.func72 (by kernel_rfl) (by kernel_rfl)
    (Rq.free (by kernel_rfl))
    (Eq.mp (by kernel_rfl) H)

end Go.Sx
