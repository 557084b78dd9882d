/- Players that run: what a step asks for, and that it leaves it so. -/
import Derived.Test.YtkgmfiloghhibaaGreatDoorLk56
import Derived.Test.YtkgmfiloghhibaaGreatDoorLm6
import Derived.Test.YtkgmfiloghhibaaGreatDoorLg
import Derived.Test.YtkgmfiloghhibaaGreatDoorLp2
import Derived.Test.YtkgmfiloghhibaaGreatDoorLp5
import Derived.Test.YtkgmfiloghhibaaGreatDoorTabE
import Derived.Test.YtkgmfiloghhibaaGreatDoorLvp
import Derived.Test.YtkgmfiloghhibaaGreatDoorK2
import Derived.Test.YtkgmfiloghhibaaGreatDoorTab
import Derived.Test.YtkgmfiloghhibaaGreatDoorLgn
import Derived.Test.YtkgmfiloghhibaaGreatDoorK9
import Derived.Test.YtkgmfiloghhibaaGreatDoorLk10
set_option linter.unusedVariables false
set_option linter.unusedSimpArgs false
namespace Go.Sx
open Go.Proofs
set_option maxRecDepth 100000
set_option maxHeartbeats 1000000

def newV (s : GScore) (v : GVoice) : GVoice := if v.Note = -1 then v else if (v.Gone && (v.sound (s.kind v)).1.quiet (s.kind v)) = true then freeV else (v.sound (s.kind v)).1
def addV (s : GScore) (a : Nat) (v : GVoice) : Nat := if v.Note = -1 then a else fadd .f32 a (v.sound (s.kind v)).2
def GPlayer.sounded (p : GPlayer) : GPlayer × Nat := ({ p with Voices := p.Voices.map (newV p.Score), Now := p.Now + 1 }, clamp (p.Voices.foldl (addV p.Score) 0) one32)
def GPlayer.now1 (p : GPlayer) : Bool := decide (p.Next < p.Score.Events.length) && (p.Score.Events[p.Next.toNat]!.At == p.Now)
def GPlayer.next (p : GPlayer) : GPlayer := { p.happen p.Score.Events[p.Next.toNat]! with Next := p.Next + 1 }
def GPlayer.run : Nat → GPlayer → GPlayer
  | 0, p => p
  | k + 1, p => if p.now1 = true then GPlayer.run k p.next else p
def GPlayer.step (p : GPlayer) : GPlayer × Nat := (GPlayer.run (p.Score.Events.length - p.Next.toNat) p).sounded
/-- A voice of a note that has started, its body in order. -/
def VoiceRuns (s : GScore) (next : Int) (v : GVoice) : Prop := ∃ j : Nat, j < s.Events.length ∧ (j : Int) < next ∧ isSt s.Events[j]! = true ∧ s.Events[j]!.Note = v.Note ∧ s.Events[j]!.Instrument = v.Instrument ∧ bodyRuns (s.kind v) v
structure GPlayer.Runs (p : GPlayer) : Prop where
  s : p.Score.ok = true
  n1 : 1 ≤ p.Voices.length
  n6 : p.Voices.length ≤ 6
  nx : 0 ≤ p.Next ∧ p.Next ≤ p.Score.Events.length
  sk : 0 ≤ p.Skipped ∧ p.Skipped ≤ 64 + p.Next
  v : ∀ v ∈ p.Voices, v.Note = -1 ∨ VoiceRuns p.Score p.Next v
  d : ∀ i j, i < j → j < p.Voices.length → p.Voices[i]!.Note = p.Voices[j]!.Note → p.Voices[i]!.Note = -1
theorem VoiceRuns.note {s : GScore} {n : Int} {v : GVoice} (h : s.ok = true) (V : VoiceRuns s n v) : 0 ≤ v.Note := by
  obtain ⟨j, h1, h2, h3, h4, _⟩ := V
  rw [← h4]; exact ((score_ev h).note j h1).1
theorem get_set {α : Type} [Inhabited α] {l : List α} {k i : Nat} {x : α} (hi : i < l.length) : (l.set k x)[i]! = if k = i then x else l[i]! := by
  rw [getElem!_pos _ i (by rw [List.length_set]; exact hi), List.getElem_set, getElem!_pos l i hi]
/-- A new voice. -/
theorem newString_ok {x : GString} {pl f : Nat} (h : (x.pluck pl f).2 = 0) : (x.pluck pl f).1.Loop.ok = true := by
  unfold GString.pluck at *
  split at h
  · next hx =>
    rw [if_pos hx]
    split at h
    · next hp =>
      rw [if_pos hp]
      split at h
      · next hf =>
        rw [if_pos hf]
        have h1 : x.Loop.ok = true := by
          unfold GString.ok at hx
          simp only [Bool.and_eq_true] at hx
          exact hx.1.1.1
        unfold GRing.ok GRing.len at *
        show (inR (((x.plucked pl f).Loop.Samples.length : Nat) : Int) 1 1024 && inR (x.plucked pl f).Loop.At 0 ((((x.plucked pl f).Loop.Samples.length : Nat) : Int) - 1)) = true
        unfold GString.plucked
        dsimp only
        rw [chg_len, chg_at]
        exact h1
      · cases h
    · cases h
  · cases h
theorem newPipe_runs {n : Int} {op : Bool} {k l : Nat} (h : (newPipe n op k l).2 = 0) : (newPipe n op k l).1.Runs := by
  unfold newPipe pipeIf at *
  split at h
  · next hx =>
    rw [if_pos hx]
    rw [Bool.and_eq_true] at hx
    have hn := hx.2
    simp only [inR, Bool.and_eq_true, decide_eq_true_eq] at hn
    have hq : (quietR n).ok = true := by
      have e : (((quietR n).Samples.length : Nat) : Int) = n := by show (((List.replicate n.toNat 0).length : Nat) : Int) = n; rw [List.length_replicate]; omega
      unfold GRing.ok GRing.len inR
      rw [e]
      show (_ && (decide ((0 : Int) ≤ 0) && _)) = true
      simp only [Bool.and_eq_true, decide_eq_true_eq]
      exact ⟨⟨by omega, by omega⟩, by omega, by show (0 : Int) ≤ n - 1; omega⟩
    have hm : ∀ r ∈ [quietR n], r.ok = true := fun r hr => by
      rw [List.mem_singleton] at hr
      rw [hr]; exact hq
    exact ⟨Nat.le_refl _, by show 1 ≤ 3; omega, rfl, rfl, hm, hm⟩
  · cases h
theorem zeros_fin (n : Nat) : allFin (List.replicate n 0) = true := by
  unfold allFin
  rw [List.all_eq_true]
  intro x hx
  rw [List.eq_of_mem_replicate hx]
  exact fin_read rd_c0
theorem ring_okf {n : Int} (h1 : 1 ≤ n) (h2 : n ≤ 1024) : (⟨List.replicate n.toNat 0, 0⟩ : GRing).okf = true := by
  unfold GRing.okf
  rw [Bool.and_eq_true]
  refine ⟨?_, zeros_fin _⟩
  unfold GRing.ok GRing.len inR
  rw [show (((List.replicate n.toNat 0).length : Nat) : Int) = n by rw [List.length_replicate]; omega]
  simp only [Bool.and_eq_true, decide_eq_true_eq]
  exact ⟨⟨by omega, by omega⟩, by omega, by omega⟩
theorem onePole_ok {k : Nat} (h : place k = true) : ((onePole k).ok && (onePole k).Kind == 1) = true := by
  have f1 := one_sub h
  have f2 := inside_fin rd_c0 rd_c1 (place_inside h)
  have f0 := fin_read rd_c0
  unfold onePole GFilter.ok used usesC usesS inR
  simp only [List.length_cons, List.length_nil]
  simp [List.range_succ, f1, f2, f0]
theorem newBow_ok {p : Int} {k l s : Nat} (h : (newBow p k l s).2 = 0) : (newBow p k l s).1.ok = true := by
  unfold newBow at *
  split at h
  · next h1 =>
    split at h
    · next h2 =>
      split at h
      · next h3 =>
        split at h
        · next h4 =>
          rw [if_pos h1, if_pos h2, if_pos h3, if_pos h4]
          simp only [inR, Bool.and_eq_true, decide_eq_true_eq] at h1
          unfold GBow.ok
          simp only [Bool.and_eq_true]
          have hb : 1 ≤ bowN p ∧ bowN p ≤ p - 1 := by unfold bowN; split <;> omega
          have h5 := onePole_ok h2
          rw [Bool.and_eq_true] at h5
          refine ⟨⟨⟨ring_okf (by omega) (by omega), ring_okf (by omega) (by omega)⟩, h5⟩, h4, inside_fin rd_c0 rd_c1 h3⟩
        · cases h
      · cases h
    · cases h
  · cases h
theorem voice_new {s : GScore} {e : GEvent} {v : GVoice} (h : voiceOf s e = some v) : v.Note = e.Note ∧ v.Instrument = e.Instrument ∧ bodyRuns (s.kind v) v := by
  unfold voiceOf at h
  dsimp only at h
  have fin : ∀ {w : GVoice}, w.Note = e.Note → w.Instrument = e.Instrument → bodyRuns s.Instruments[e.Instrument.toNat]!.Kind w → w = v → v.Note = e.Note ∧ v.Instrument = e.Instrument ∧ bodyRuns (s.kind v) v := fun h1 h2 h3 e => by
    subst e
    refine ⟨h1, h2, ?_⟩
    unfold GScore.kind
    rw [h2]; exact h3
  split at h
  · split at h
    · next k1 =>
      split at h
      · split at h
        · next hp =>
          refine fin (by rfl) (by rfl) ?_ (Option.some.inj h)
          unfold bodyRuns
          rw [if_pos k1]
          exact newString_ok hp
        · cases h
      · cases h
    · next k1 =>
      split at h
      · next k2 =>
        split at h
        · next hp =>
          refine fin (by rfl) (by rfl) ?_ (Option.some.inj h)
          unfold bodyRuns
          rw [if_neg k1, if_pos k2]
          exact newPipe_runs hp
        · cases h
      · next k2 =>
        split at h
        · next hp =>
          refine fin (by rfl) (by rfl) ?_ (Option.some.inj h)
          unfold bodyRuns
          rw [if_neg k1, if_neg k2]
          exact newBow_ok hp
        · cases h
  · cases h
end Go.Sx
/- Silence stays: bows that are not drawn, jets that are not blown, rooms to which nothing comes. -/
set_option linter.unusedVariables false
set_option linter.unusedSimpArgs false
namespace Go.Sx
open Go.Proofs Ieee
set_option maxRecDepth 100000
set_option maxHeartbeats 1000000

def Z2 (a : Nat) : Prop := a = 0 ∨ a = 2147483648
theorem zeq {a : Nat} (ha : Z2 a) : feq .f32 a 0 = true := by rcases ha with rfl | rfl <;> decide +kernel
theorem z0 : Z2 0 := .inl rfl
def GRing.nil (r : GRing) : Prop := ∀ a ∈ r.Samples, a = 0
/-- A filter of finite numbers at rest. -/
structure Rest (k : Int) (f : GFilter) : Prop where
  k : f.Kind = k
  c : ∀ i : Nat, fin f.C[i]! = true
  s : f.S = [0, 0]
theorem fin0 : fin 0 = true := by decide +kernel
theorem used_fin {l : List Nat} {n : Int} (h : used l n = true) (i : Nat) : fin l[i]! = true := by
  by_cases hi : i < l.length
  · unfold used at h
    have := List.all_eq_true.1 h i (List.mem_range.2 hi)
    rw [Bool.and_eq_true] at this
    exact this.1
  · rw [List.getElem!_eq_getElem?_getD, List.getElem?_eq_none (by omega)]; exact fin0
theorem rest_mute {k : Int} {f : GFilter} (h : (f.ok && f.Kind == k) = true) : Rest k f.mute := by
  rw [Bool.and_eq_true, beq_iff_eq] at h
  have h1 := h.1
  unfold GFilter.ok at h1
  simp only [Bool.and_eq_true] at h1
  exact ⟨h.2, used_fin h1.1.2, rfl⟩
theorem rest_still {k : Int} {f : GFilter} (h : Rest k f) : f.still = true := by
  unfold GFilter.still
  rw [h.s]
  show (feq .f32 0 0 && feq .f32 0 0) = true
  rw [zeq z0]; rfl
def GBow.mute (x : GBow) : GBow := { x with Neck := x.Neck.mute, Bridge := x.Bridge.mute, Damp := x.Damp.mute }
theorem mute_okf {r : GRing} (h : r.okf = true) : r.mute.okf = true := by
  unfold GRing.okf at *
  rw [Bool.and_eq_true] at *
  refine ⟨?_, zeros_fin _⟩
  have h1 := h.1
  unfold GRing.ok GRing.len GRing.mute at *
  rw [List.length_replicate]
  exact h1
theorem mute_ok1 {k : Int} {f : GFilter} (h : (f.ok && f.Kind == k) = true) : (f.mute.ok && f.mute.Kind == k) = true := by
  rw [Bool.and_eq_true, beq_iff_eq] at *
  refine ⟨?_, h.2⟩
  have h1 := h.1
  unfold GFilter.ok GFilter.mute at *
  simp only [Bool.and_eq_true] at *
  refine ⟨h1.1, ?_⟩
  unfold used
  rw [List.all_eq_true]
  intro i hi
  rw [List.mem_range] at hi
  have : i < 2 := hi
  rcases (show i = 0 ∨ i = 1 by omega) with rfl | rfl
  · show (fin 0 && _) = true; rw [fin0]; simp
  · show (fin 0 && _) = true; rw [fin0]; simp
def jetAt (p : Nat) : Nat := clamp (fmul .f32 p (fsub .f32 (fmul .f32 p p) 1065353216)) 1065353216
def GJet.ok (x : GJet) : Bool := x.Throat.okf && x.Bore.okf && (x.Low.ok && x.Low.Kind == 1) && (x.Dc.ok && x.Dc.Kind == 5) && (fin x.Near && fin x.Far)
def GJet.step (x : GJet) (a : Nat) : GJet × Nat :=
  let l := x.Low.step x.Bore.old
  let d := x.Dc.step l.2
  ({ x with Throat := x.Throat.push (kept (fsub .f32 a (fmul .f32 x.Near d.2))), Bore := x.Bore.push (kept (fadd .f32 (jetAt x.Throat.old) (fmul .f32 x.Far d.2))), Low := l.1, Dc := d.1 }, x.Bore.old)
def GJet.mute (x : GJet) : GJet := { x with Throat := x.Throat.mute, Bore := x.Bore.mute, Low := x.Low.mute, Dc := x.Dc.mute }
def GJet.silent (x : GJet) : Bool := x.Throat.zero && x.Bore.zero && x.Low.still && x.Dc.still
end Go.Sx
/- What is told of rings, filters, strings, bows, jets and pipes, line by line. -/
set_option linter.unusedVariables false
set_option linter.unusedSimpArgs false
namespace Go.Sx
open Go.Proofs Go.RowKit
set_option maxRecDepth 100000
set_option maxHeartbeats 1000000

def GRing.line (r : GRing) : List UInt8 := ringL r.At.toNat r.Samples
def GFilter.line (f : GFilter) : List UInt8 := filtL f.Kind.toNat f.C f.S
/-- A word, and samples behind it. -/
def headL (w : List UInt8) (ns : List Nat) : List UInt8 := w ++ 32 :: smpL ns
structure RingB (r : GRing) : Prop where
  ne : r.Samples ≠ []
  bits : B32 r.Samples
  len : r.Samples.length ≤ 1024
  a0 : 0 ≤ r.At
  a1 : r.At ≤ 1024
theorem ring_b {r : GRing} (h : r.ok = true) (hb : B32 r.Samples) : RingB r := by
  unfold GRing.ok inR GRing.len at h
  simp only [Bool.and_eq_true, decide_eq_true_eq] at h
  obtain ⟨⟨h1, h2⟩, h3, h4⟩ := h
  refine ⟨fun e => ?_, hb, by omega, by omega, by omega⟩
  rw [e] at h1
  simp at h1
structure FiltB (f : GFilter) : Prop where
  k0 : 1 ≤ f.Kind
  k1 : f.Kind ≤ 5
  c3 : f.C.length = 3
  s2 : f.S.length = 2
  cb : B32 f.C
  sb : B32 f.S
theorem dec_le {n k : Nat} (h : n < 10 ^ (k + 1)) : (Lib.decDigits n).length ≤ k + 1 := by
  rw [Lib.decDigits_length]
  exact nDig_le k _ h
theorem RingB.cut {r : GRing} (h : RingB r) : cutL 32 r.line = Lib.decDigits r.Samples.length :: Lib.decDigits r.At.toNat :: r.Samples.map bitL := ring_cut h.bits h.ne
theorem RingB.mem {r : GRing} (h : RingB r) : ∀ b ∈ r.line, b ≠ 10 := ring_mem h.bits
theorem RingB.size {r : GRing} (h : RingB r) : r.line.length ≤ 9300 := by
  have h1 := dec_le (n := r.Samples.length) (k := 9) (by have := h.len; omega)
  have h2 := dec_le (n := r.At.toNat) (k := 9) (by have := h.a1; omega)
  have h3 := smp_le h.bits
  have := h.len
  unfold GRing.line ringL
  simp only [List.length_append, List.length_cons]
  omega
theorem FiltB.cut {f : GFilter} (h : FiltB f) : cutL 32 f.line = fwL :: Lib.decDigits f.Kind.toNat :: (f.C ++ f.S).map bitL :=
  filt_cut h.cb h.sb (fun e => by have := h.c3; rw [e] at this; simp at this) (fun e => by have := h.s2; rw [e] at this; simp at this)
theorem FiltB.mem {f : GFilter} (h : FiltB f) : ∀ b ∈ f.line, b ≠ 10 := filt_mem h.cb h.sb
theorem FiltB.size {f : GFilter} (h : FiltB f) : f.line.length ≤ 80 := by
  have h1 := dec_le (n := f.Kind.toNat) (k := 1) (by have := h.k1; omega)
  have h2 := smp_le h.cb
  have h3 := smp_le h.sb
  have := h.c3
  have := h.s2
  have e : fwL.length = 6 := rfl
  unfold GFilter.line filtL
  simp only [List.length_append, List.length_cons]
  omega
theorem head_mem {w : List UInt8} {ns : List Nat} (hw : ∀ b ∈ w, b ≠ 10) (h : B32 ns) : ∀ b ∈ headL w ns, b ≠ 10 := by
  intro b hb
  unfold headL at hb
  simp only [List.mem_append, List.mem_cons] at hb
  rcases hb with hb | rfl | hb
  · exact hw b hb
  · decide
  · exact smp_mem h b hb
theorem head_size {w : List UInt8} {ns : List Nat} (h : B32 ns) : (headL w ns).length ≤ w.length + 1 + 9 * ns.length := by
  have := smp_le h
  unfold headL
  simp only [List.length_append, List.length_cons]
  omega
theorem lin_size {k : Nat} : ∀ {ls : List (List UInt8)}, (∀ l ∈ ls, l.length ≤ k) → (linL ls).length ≤ (k + 1) * ls.length
  | [], _ => Nat.le_refl _
  | l :: r, h => by
    have h1 := h l (List.mem_cons_self ..)
    have h2 := lin_size fun x hx => h x (List.mem_cons_of_mem (a := x) l hx)
    rw [linL, List.length_append, List.length_cons, List.length_cons, Nat.mul_succ]
    omega
def jetW : List UInt8 := [106, 101, 116]
def bowW : List UInt8 := [98, 111, 119]
def GJet.lines (x : GJet) : List (List UInt8) := [headL jetW [x.Near, x.Far], x.Low.line, x.Dc.line, x.Throat.line, x.Bore.line]
def GBow.lines (x : GBow) : List (List UInt8) := [headL bowW [x.Slope, x.Loss], x.Damp.line, x.Neck.line, x.Bridge.line]
structure JetB (x : GJet) : Prop where
  t : RingB x.Throat
  b : RingB x.Bore
  l : FiltB x.Low
  d : FiltB x.Dc
  n : B32 [x.Near, x.Far]
structure BowB (x : GBow) : Prop where
  n : RingB x.Neck
  b : RingB x.Bridge
  d : FiltB x.Damp
  s : B32 [x.Slope, x.Loss]
theorem JetB.mem {x : GJet} (h : JetB x) : ∀ l ∈ x.lines, ∀ b ∈ l, b ≠ 10 := by
  intro l hl
  simp only [GJet.lines, List.mem_cons, List.not_mem_nil, or_false] at hl
  rcases hl with rfl | rfl | rfl | rfl | rfl
  · exact head_mem (by decide) h.n
  · exact h.l.mem
  · exact h.d.mem
  · exact h.t.mem
  · exact h.b.mem
theorem JetB.cut {x : GJet} (h : JetB x) : cutL 10 (linL x.lines) = x.lines ++ [[]] := lin_cut h.mem
theorem JetB.size {x : GJet} (h : JetB x) : (linL x.lines).length ≤ 46505 := by
  refine lin_size (k := 9300) fun l hl => ?_
  simp only [GJet.lines, List.mem_cons, List.not_mem_nil, or_false] at hl
  rcases hl with rfl | rfl | rfl | rfl | rfl
  · exact Nat.le_trans (head_size h.n) (show 3 + 1 + 9 * 2 ≤ 9300 by decide)
  · exact Nat.le_trans h.l.size (by decide)
  · exact Nat.le_trans h.d.size (by decide)
  · exact h.t.size
  · exact h.b.size
theorem BowB.mem {x : GBow} (h : BowB x) : ∀ l ∈ x.lines, ∀ b ∈ l, b ≠ 10 := by
  intro l hl
  simp only [GBow.lines, List.mem_cons, List.not_mem_nil, or_false] at hl
  rcases hl with rfl | rfl | rfl | rfl
  · exact head_mem (by decide) h.s
  · exact h.d.mem
  · exact h.n.mem
  · exact h.b.mem
theorem BowB.cut {x : GBow} (h : BowB x) : cutL 10 (linL x.lines) = x.lines ++ [[]] := lin_cut h.mem
theorem BowB.size {x : GBow} (h : BowB x) : (linL x.lines).length ≤ 37204 := by
  refine lin_size (k := 9300) fun l hl => ?_
  simp only [GBow.lines, List.mem_cons, List.not_mem_nil, or_false] at hl
  rcases hl with rfl | rfl | rfl | rfl
  · exact Nat.le_trans (head_size h.s) (show 3 + 1 + 9 * 2 ≤ 9300 by decide)
  · exact Nat.le_trans h.d.size (by decide)
  · exact h.n.size
  · exact h.b.size
end Go.Sx
/- A room's step, as the program makes it. -/
set_option linter.unusedVariables false
set_option linter.unusedSimpArgs false
namespace Go.Sx
open Go.Proofs
set_option maxRecDepth 100000
set_option maxHeartbeats 1000000

section
variable {h0 h : Heap} {q : Addr} {F : Fr} {L : List Blk} {x : GRoom} {w a : Nat}
theorem RStep.of {y : Nat} (R : x.Runs) (hy : FW .f32 y (x.sv a)) (P : Pt rRoom h0 h q F L (x.s3 a 4)) : RStep h0 h q F L x a (.float .f32 y) := by
  unfold RStep
  rw [step_eq R]
  exact ⟨⟨y, rfl, hy⟩, P⟩
end
end Go.Sx
/- How long a room sounds, as the rule and the program tell it. -/
set_option linter.unusedVariables false
set_option linter.unusedSimpArgs false
namespace Go.Sx
open Go.Proofs
set_option maxRecDepth 100000
set_option maxHeartbeats 1000000

section
variable {h0 h : Heap} {x : GRoom} {most : Int}
def tup (r : Int × Int) : Value := .tuple ⟨[.int .i64 r.1, .int .i64 r.2]⟩
/-- Integers in a block. -/
def ivs (rs : List Int) : Array Value := ⟨rs.map (.int .i64)⟩
theorem ivs_get {rs : List Int} {i : Nat} (hi : i < rs.length) : (ivs rs)[i]? = some (.int .i64 rs[i]!) := by
  unfold ivs
  rw [List.getElem?_toArray, List.getElem?_map, List.getElem?_eq_getElem hi, getElem!_pos _ i hi]; rfl
theorem Look.oV {L : List Blk} {g i : Nat} {rs : List Int} {K : Int → Prop} (l : Look L g (ivs rs)) (M : Mem h0 h L) (hi : i < rs.length) (H : K rs[i]!) : Sx.oI .i64 (cell h ((⟨g, 0, none⟩ : Addr).add (i * 1))) K := by
  rw [add_none, Nat.zero_add, Nat.mul_one]
  exact o_i (by rw [M.cell l, ivs_get hi]) H
end
end Go.Sx
/- Rooms muted, as the program does it. -/
set_option linter.unusedVariables false
set_option linter.unusedSimpArgs false
namespace Go.Sx
open Go.Proofs
set_option maxRecDepth 100000

def GRoom.muted (x : GRoom) : GRoom × Int := if x.ok then (x.mute, 0) else (z_Room, 1)
section
variable {h : Heap} {q : Addr}
theorem Ring_mute_c {h0 : Heap} {F : Fr} {L : List Blk} {r : GRing} (P : Pt rRing h0 h q F L r) (hl : r.Samples.length ≤ 1048576) : CALL prg f_p_impl_Ring_mute #[.pointer (some q)] (fun u h' => u = .tuple ⟨[]⟩ ∧ Pt rRing h0 h' q F L r.mute) h := by
  refine p_impl_Ring_mute.call (P.rd.oL1 fun b l c S => ?_)
  have hls := S.len
  refine make_floats (Mem.start h) (by omega) fun g2 h2 x2 M O => ?_
  refine (P.join M).stL O fun h3 P3 => ⟨rfl, ?_⟩
  unfold GRing.mute
  rw [hls]
  exact P3
end
end Go.Sx
/- Rooms made by the rule: valid for drawn numbers. -/
set_option linter.unusedVariables false
set_option linter.unusedSimpArgs false
namespace Go.Sx
open Go.Proofs
set_option maxRecDepth 100000
set_option maxHeartbeats 1000000

section
variable {h0 h : Heap} {q : Addr} {F : Fr} {L : List Blk} {y k : Nat}
/-- A room of which the first n loops are made. -/
structure Made (x : GRoom) (n : Nat) : Prop where
  e : x.Early.okf = true
  t : x.Taps = []
  c2 : x.Combs.length = 2
  c : x.Combs.all GComb.ok = true
  l4 : x.Loops.length = 4
  d4 : x.Damps.length = 4
  g4 : x.Gains.length = 4
  l : ∀ i, i < n → x.Loops[i]!.okf = true
  d : ∀ i, i < n → (x.Damps[i]!.ok && x.Damps[i]!.Kind == 1) = true
  g : ∀ i, i < n → fin x.Gains[i]! = true
  dry : fin x.Dry = true
  wet : fin x.Wet = true
theorem all_idx {α : Type} [Inhabited α] {l : List α} {p : α → Bool} (H : ∀ i, i < l.length → p l[i]! = true) : l.all p = true := by
  rw [List.all_eq_true]
  intro a ha
  obtain ⟨i, hi, rfl⟩ := List.mem_iff_getElem.1 ha
  have := H i hi
  rwa [getElem!_pos l i hi] at this
theorem Made.ok {x : GRoom} (M : Made x 4) : x.ok = true := by
  rw [room_ok, M.e, M.c, M.t, M.dry, M.wet]
  rw [all_idx (l := x.Loops) (p := GRing.okf) fun i hi => M.l i (by rw [M.l4] at hi; exact hi)]
  rw [all_idx (l := x.Damps) (p := fun f => f.ok && f.Kind == 1) fun i hi => M.d i (by rw [M.d4] at hi; exact hi)]
  unfold allFin
  rw [all_idx (l := x.Gains) (p := fin) fun i hi => M.g i (by rw [M.g4] at hi; exact hi)]
  rfl
theorem setGet {α : Type} [Inhabited α] {l : List α} {i j : Nat} {a : α} (hj : j < l.length) : (l.set i a)[j]! = if i = j then a else l[j]! := by
  rw [getElem!_pos _ j (by rw [List.length_set]; exact hj), List.getElem_set]
  split
  · rfl
  · rw [getElem!_pos _ j hj]
theorem Made.step {x : GRoom} {n : Nat} {r : GRing} {f : GFilter} {g : Nat} (M : Made x n) (hn : n < 4) (hr : r.okf = true) (hf : (f.ok && f.Kind == 1) = true) (hg : fin g = true) : Made { x with Loops := x.Loops.set n r, Damps := x.Damps.set n f, Gains := x.Gains.set n g } (n + 1) := by
  obtain ⟨e, t, c2, c, l4, d4, g4, l, d, gg, dry, wet⟩ := M
  refine ⟨e, t, c2, c, by rw [List.length_set]; exact l4, by rw [List.length_set]; exact d4, by rw [List.length_set]; exact g4, fun i hi => ?_, fun i hi => ?_, fun i hi => ?_, dry, wet⟩
  · show (x.Loops.set n r)[i]!.okf = true
    rw [setGet (by omega)]
    split
    · exact hr
    · exact l i (by omega)
  · show ((x.Damps.set n f)[i]!.ok && (x.Damps.set n f)[i]!.Kind == 1) = true
    rw [setGet (by omega)]
    split
    · exact hf
    · exact d i (by omega)
  · show fin (x.Gains.set n g)[i]! = true
    rw [setGet (by omega)]
    split
    · exact hg
    · exact gg i (by omega)
/-- A valid room, told by a call. -/
def RoomOk (h h' : Heap) (u : Value) : Prop := ∃ cs B x, u = .tuple ⟨[.agg cs, .int .i64 (0 : Int)]⟩ ∧ rRoom.ow B cs.toList x ∧ x.ok = true ∧ Mem h h' B
end
end Go.Sx
/- Drawn rooms are valid. -/
set_option linter.unusedVariables false
set_option linter.unusedSimpArgs false
namespace Go.Sx
open Go.Proofs
set_option maxRecDepth 100000
set_option maxHeartbeats 1000000

section
variable {h0 h h' : Heap} {L W : List Blk} {g : Nat} {cb : Option Addr} {cc K : Nat} {xs : List Int} {n : Int}
theorem Src.alc {cs : Array Value} {T : Nat} {F : Nat → Heap → Prop} (S : Src h0 h L g cb xs.length cc K) (H : ∀ g' h', Src h0 h' ((g', T, cs) :: L) g cb xs.length cc K → F g' h') : ALC cs T F h := by
  obtain ⟨p, st, hp, M⟩ := S
  exact M.alc fun g' h' x M => H g' h' ⟨p, st, hp, M.cnt fun p => by simp only [cnt_app, cnt_cons, cnt_nil]; omega⟩
theorem Src.sta {cs vs : Array Value} {T g' m : Nat} {F : Heap → Prop} (S : Src h0 h ((g', T, cs) :: L) g cb xs.length cc K) (hv : vs.size = m) (ho : ∀ v ∈ vs.toList, v.oneCell' = true) (hn : cs.size = m) (H : ∀ h', Src h0 h' ((g', T, vs) :: L) g cb xs.length cc K → F h') : STA m h ⟨g', 0, none⟩ vs F := by
  obtain ⟨p, st, hp, M⟩ := S
  have M := M.cnt (W := (g', T, cs) :: (g, T_spec_l00Src, ⟨[.slice cb xs.length cc, .int .i64 (p : Int), .int .u64 st]⟩) :: L) (fun p => by simp only [cnt_app, cnt_cons, cnt_nil]; omega)
  exact M.sta0 .here hv ho hn .here fun h' M => H h' ⟨p, st, hp, M.cnt fun p => by simp only [cnt_app, cnt_cons, cnt_nil]; omega⟩
/-- A room in a block, beside the machine. -/
def DR (h0 h : Heap) (L : List Blk) (g : Nat) (cb : Option Addr) (cl cc K r : Nat) (x : GRoom) : Prop := ∃ cs B, rRoom.ow B cs.toList x ∧ Src h0 h ((r, T_impl_Room, cs) :: (B ++ L)) g cb cl cc K
theorem DR.pt {r : Nat} {x : GRoom} (D : DR h0 h L g cb xs.length cc K r x) : ∃ (p : Nat) (st : Int), p ≤ K ∧ Pt rRoom h0 h ⟨r, 0, none⟩ ⟨r, T_impl_Room, [], []⟩ ((g, T_spec_l00Src, ⟨[.slice cb xs.length cc, .int .i64 (p : Int), .int .u64 st]⟩) :: L) x := by
  obtain ⟨cs, B, O, p, st, hp, M⟩ := D
  exact ⟨p, st, hp, Pt.new O (M.cnt fun p => by simp only [cnt_app, cnt_cons, cnt_nil]; omega)⟩
theorem DR.of {r p : Nat} {st : Int} {x : GRoom} (hp : p ≤ K) (P : Pt rRoom h0 h ⟨r, 0, none⟩ ⟨r, T_impl_Room, [], []⟩ ((g, T_spec_l00Src, ⟨[.slice cb xs.length cc, .int .i64 (p : Int), .int .u64 st]⟩) :: L) x) : DR h0 h L g cb xs.length cc K r x := by
  obtain ⟨cs, B, M, O⟩ := P.out
  exact ⟨cs, B, O, p, st, hp, M.cnt fun p => by simp only [cnt_app, cnt_cons, cnt_nil]; omega⟩
end
end Go.Sx
