/- Finite numbers: what reads as a number is finite; one less a part of one. -/
import Derived.Test.YtkgmfiloghhibaaGreatDoorLm7
import Derived.Test.YtkgmfiloghhibaaGreatDoorLk21
import Derived.Test.YtkgmfiloghhibaaGreatDoorK10
import Derived.Test.YtkgmfiloghhibaaGreatDoorLk4
import Derived.Test.YtkgmfiloghhibaaGreatDoorTab
import Derived.Test.YtkgmfiloghhibaaGreatDoorLk1
import Derived.Test.YtkgmfiloghhibaaGreatDoorLp4
import Derived.Test.YtkgmfiloghhibaaGreatDoorLr3
import Derived.Test.YtkgmfiloghhibaaGreatDoorLg
import Derived.Test.YtkgmfiloghhibaaGreatDoorTabE
import Derived.Test.YtkgmfiloghhibaaGreatDoorLvp
set_option linter.unusedVariables false
set_option linter.unusedSimpArgs false
namespace Go.Sx
open Ieee

theorem word_fin (t : Bool) : feq .f32 (cn .f32 (FloatKind.f32.format.word t 0)) 0 = true := by cases t <;> decide +kernel
theorem sub_self_word {a m : Nat} {s : Bool} {e : Int} (h : FloatKind.f32.format.read a = .number s m e) : ∃ t, FloatKind.f32.format.sub a a = some (FloatKind.f32.format.word t 0) := by
  have hsum : ∃ t, (Datum.number s m e).sum (Datum.number s m e).opposite = some (.number t (signed s m (e - min e e).toNat + signed (!s) m (e - min e e).toNat).natAbs (min e e)) := ⟨_, rfl⟩
  obtain ⟨t, hsum⟩ := hsum
  have z : ∀ k, signed s m k + signed (!s) m k = 0 := fun k => by
    cases s
    · rw [signed_f]; show _ + signed true m k = 0; rw [signed_t]; omega
    · rw [signed_t]; show _ + signed false m k = 0; rw [signed_f]; omega
  rw [z] at hsum
  refine ⟨t, ?_⟩
  unfold Format.sub
  rw [h, hsum]
  exact congrArg some (nearest_zero _ _ _)
theorem fin_read {a m : Nat} {s : Bool} {e : Int} (h : FloatKind.f32.format.read a = .number s m e) : fin a = true := by
  obtain ⟨t, ht⟩ := sub_self_word h
  unfold fin fsub
  rw [ht, Option.getD_some]
  exact word_fin t
theorem inside_fin {a c d n k : Nat} {j i : Int} (hc : FloatKind.f32.format.read c = .number false n j) (hd : FloatKind.f32.format.read d = .number false k i) (h : inside a c d = true) : fin a = true := by
  obtain ⟨B, hB⟩ : ∃ B : Nat, 1100 ≤ B := ⟨1100, Nat.le_refl _⟩
  obtain ⟨s, m, e, hr, _⟩ := inside_read hB hc hd h
  exact fin_read hr
theorem rd_c0 : FloatKind.f32.format.read 0 = .number false 0 (-149) := by decide +kernel
theorem rd_c1 : FloatKind.f32.format.read 1065353216 = .number false (2 ^ 23) (-23) := by decide +kernel
theorem place_inside {k : Nat} (h : place k = true) : inside k 0 1065353216 = true := by
  unfold place at h
  unfold inside fle
  rw [Bool.and_eq_true] at *
  exact ⟨h.1, by rw [show (FloatKind.f32.format.order k 1065353216 == some .lt) = true from h.2]; rfl⟩
theorem one_sub {k : Nat} (h : place k = true) : fin (fsub .f32 1065353216 k) = true := by
  obtain ⟨B, hB⟩ : ∃ B : Nat, 1100 ≤ B := ⟨1100, Nat.le_refl _⟩
  obtain ⟨s', m', e', hr', hs', h1', h2'⟩ := inside_read hB rd_c0 rd_c1 (place_inside h)
  have v1 : sv B (2 ^ 23) (-23) = 2 ^ B := by unfold sv; rw [← Nat.pow_add]; congr 1; omega
  have hb2 := read_single k hr'
  have hm : ∃ m, m = (2 : Nat) ^ 23 := ⟨_, rfl⟩
  obtain ⟨m, hm⟩ := hm
  have hr := rd_c1
  rw [← hm] at hr v1 h2'
  have he : ∃ e : Int, e = -23 := ⟨_, rfl⟩
  obtain ⟨e, he⟩ := he
  rw [← he] at hr v1 h2'
  have hbase : ∃ b : Int, b = min e e' := ⟨_, rfl⟩
  obtain ⟨b, hbase⟩ := hbase
  have w1 : sv B m e = m * 2 ^ (e - b).toNat * 2 ^ (b + (B : Int)).toNat := by unfold sv; rw [Nat.mul_assoc, ← Nat.pow_add]; congr 2; omega
  have w2 : sv B m' e' = m' * 2 ^ (e' - b).toNat * 2 ^ (b + (B : Int)).toNat := by unfold sv; rw [Nat.mul_assoc, ← Nat.pow_add]; congr 2; omega
  have hneg : signed (!s') m' (e' - b).toNat = -((m' * 2 ^ (e' - b).toNat : Nat) : Int) := by
    cases s'
    · exact signed_t _ _
    · rw [hs' rfl, Nat.zero_mul]
      show signed false 0 _ = _
      rw [signed_f, Nat.zero_mul]; rfl
  have hT : ∃ T : Nat, m * 2 ^ (e - b).toNat = T + m' * 2 ^ (e' - b).toNat ∧ T * 2 ^ (b + (B : Int)).toNat ≤ 2 ^ B := by
    rw [w1, w2] at h2'
    rw [w1] at v1
    have hle := Nat.le_of_mul_le_mul_right h2' (Nat.two_pow_pos _)
    refine ⟨m * 2 ^ (e - b).toNat - m' * 2 ^ (e' - b).toNat, by omega, ?_⟩
    rw [← v1]
    exact Nat.mul_le_mul_right _ (Nat.sub_le _ _)
  obtain ⟨T, hT1, hT3⟩ := hT
  have hsum : ∃ t, (Datum.number false m e).sum (Datum.number s' m' e').opposite = some (.number t T b) := by
    have : ∃ t, (Datum.number false m e).sum (Datum.number s' m' e').opposite = some (.number t (signed false m (e - min e e').toNat + signed (!s') m' (e' - min e e').toNat).natAbs (min e e')) := ⟨_, rfl⟩
    obtain ⟨t, this⟩ := this
    refine ⟨t, ?_⟩
    rw [this, ← hbase, hneg, signed_f, hT1]
    have : ((T + m' * 2 ^ (e' - b).toNat : Nat) : Int) + -((m' * 2 ^ (e' - b).toNat : Nat) : Int) = (T : Int) := by push_cast; omega
    rw [this, Int.natAbs_natCast]
  obtain ⟨t, hsum⟩ := hsum
  have hsub : FloatKind.f32.format.sub 1065353216 k = some (FloatKind.f32.format.nearest t T b) := by
    unfold Format.sub
    rw [hr, hr', hsum]; rfl
  have hf : fsub .f32 1065353216 k = cn .f32 (FloatKind.f32.format.nearest t T b) := by
    unfold fsub
    rw [hsub, Option.getD_some]
  have fromR : ∀ {w n : Nat} {q : Int}, FloatKind.f32.format.read w = .number t n q → fin (cn .f32 w) = true := fun {w n q} hw => by
    rw [number_cn hw]; exact fin_read hw
  rw [hf]
  by_cases hT0 : T = 0
  · subst hT0
    rw [nearest_zero]
    exact fromR (zero32 t)
  obtain ⟨e1, e2, e3, e4⟩ := f32_consts
  have hle : VLE T b 0 := sv_vle hB hT0 (by omega) (by omega) (by rw [show ((0 : Int) + (B : Int)).toNat = B by omega]; exact hT3)
  obtain ⟨m2, p2, hr2, _⟩ := nearest_read FloatKind.f32.format t hT0 hle (by rw [e1, e2]; omega) (by rw [e1, e2, e3, e4]; decide)
  exact fromR hr2
end Go.Sx
/- An event happens: the rule's and the program's. -/
set_option linter.unusedVariables false
set_option linter.unusedSimpArgs false
namespace Go.Sx
open Go.Proofs
set_option maxRecDepth 100000
set_option maxHeartbeats 2000000

def eldest (vs : List GVoice) : Nat → Nat
  | 0 => 0
  | i + 1 => if vs[i]!.Born < vs[eldest vs i]!.Born then i else eldest vs i
def isFreeV (v : GVoice) : Bool := v.Note == -1
def placeOf (vs : List GVoice) : Nat := if firstAt isFreeV vs = -1 then eldest vs vs.length else (firstAt isFreeV vs).toNat
theorem eldest_lt {vs : List GVoice} (h : 1 ≤ vs.length) : ∀ i, i ≤ vs.length → eldest vs i < vs.length
  | 0, _ => h
  | i + 1, hi => by
    unfold eldest
    split
    · omega
    · exact eldest_lt h i (by omega)
theorem placeOf_lt {vs : List GVoice} (h : 1 ≤ vs.length) : placeOf vs < vs.length := by
  unfold placeOf
  split
  · exact eldest_lt h _ (Nat.le_refl _)
  · next hf =>
    rcases first_cases isFreeV vs with ⟨e, _⟩ | ⟨n, hn, e, _⟩
    · exact absurd e hf
    · rw [e]; exact hn
def GScore.kind (s : GScore) (v : GVoice) : Int := s.Instruments[v.Instrument.toNat]!.Kind
def goneV (s : GScore) (v : GVoice) : GVoice := if s.kind v = 1 then { v with Gone := true, Drive := 0, String := { v.String with Loss := fmul .f32 v.String.Loss half } } else { v with Gone := true, Drive := 0 }
def stopV (s : GScore) (n : Int) (v : GVoice) : GVoice := if v.Note = n then goneV s v else v
def GPlayer.happen (p : GPlayer) (e : GEvent) : GPlayer :=
  if e.Kind = 2 then match voiceOf p.Score e with | some v => { p with Voices := p.Voices.set (placeOf p.Voices) v } | none => { p with Skipped := p.Skipped + 1 }
  else { p with Voices := p.Voices.map (stopV p.Score e.Note) }
/-- The event of a player that lies at a place. -/
def EvAt (h : Heap) (q e1 : Addr) (n : Nat) : Prop := ∃ a5 l5 c5, cell h (q.add 5) = some (.slice (some a5) l5 c5) ∧ e1 = a5.add (n * 6) ∧ n < l5
section
variable {h0 h : Heap} {q e1 : Addr} {F : Fr} {L : List Blk} {p : GPlayer} {n : Nat}
theorem EvAt.ext {h' : Heap} (E : EvAt h q e1 n) (x : Ext h h') : EvAt h' q e1 n := by
  obtain ⟨a5, l5, c5, e, r⟩ := E
  exact ⟨a5, l5, c5, x.cell e, r⟩
end
end Go.Sx
/- An event happens: both walks. -/
set_option linter.unusedVariables false
set_option linter.unusedSimpArgs false
namespace Go.Sx
open Go.Proofs
set_option maxRecDepth 100000
set_option maxHeartbeats 2000000

section
variable {h0 h : Heap} {q e1 : Addr} {F : Fr} {L : List Blk} {p : GPlayer} {n : Nat} {e : GEvent}
theorem happen_start (hk : e.Kind = 2) : p.happen e = match voiceOf p.Score e with | some v => { p with Voices := p.Voices.set (placeOf p.Voices) v } | none => { p with Skipped := p.Skipped + 1 } := by unfold GPlayer.happen; rw [if_pos hk] <;> (cases voiceOf p.Score e <;> rfl)
theorem happen_stop (hk : ¬ e.Kind = 2) : p.happen e = { p with Voices := p.Voices.map (stopV p.Score e.Note) } := by unfold GPlayer.happen; rw [if_neg hk]
end
end Go.Sx
/- New players. -/
set_option linter.unusedVariables false
set_option linter.unusedSimpArgs false
namespace Go.Sx
open Go.Proofs
set_option maxRecDepth 100000
set_option maxHeartbeats 1000000

def freeV : GVoice := { z_Voice with Note := -1 }
end Go.Sx
/- Players that run: what a step asks for, and that it leaves it so. -/
set_option linter.unusedVariables false
set_option linter.unusedSimpArgs false
namespace Go.Sx
open Go.Proofs
set_option maxRecDepth 100000
set_option maxHeartbeats 1000000

def newV (s : GScore) (v : GVoice) : GVoice := if v.Note = -1 then v else if (v.Gone && (v.sound (s.kind v)).1.quiet (s.kind v)) = true then freeV else (v.sound (s.kind v)).1
def addV (s : GScore) (a : Nat) (v : GVoice) : Nat := if v.Note = -1 then a else fadd .f32 a (v.sound (s.kind v)).2
def GPlayer.sounded (p : GPlayer) : GPlayer × Nat := ({ p with Voices := p.Voices.map (newV p.Score), Now := p.Now + 1 }, clamp (p.Voices.foldl (addV p.Score) 0) one32)
def GPlayer.now1 (p : GPlayer) : Bool := decide (p.Next < p.Score.Events.length) && (p.Score.Events[p.Next.toNat]!.At == p.Now)
def GPlayer.next (p : GPlayer) : GPlayer := { p.happen p.Score.Events[p.Next.toNat]! with Next := p.Next + 1 }
def GPlayer.run : Nat → GPlayer → GPlayer
  | 0, p => p
  | k + 1, p => if p.now1 = true then GPlayer.run k p.next else p
def GPlayer.step (p : GPlayer) : GPlayer × Nat := (GPlayer.run (p.Score.Events.length - p.Next.toNat) p).sounded
/-- A voice of a note that has started, its body in order. -/
def VoiceRuns (s : GScore) (next : Int) (v : GVoice) : Prop := ∃ j : Nat, j < s.Events.length ∧ (j : Int) < next ∧ isSt s.Events[j]! = true ∧ s.Events[j]!.Note = v.Note ∧ s.Events[j]!.Instrument = v.Instrument ∧ bodyRuns (s.kind v) v
structure GPlayer.Runs (p : GPlayer) : Prop where
  s : p.Score.ok = true
  n1 : 1 ≤ p.Voices.length
  n6 : p.Voices.length ≤ 6
  nx : 0 ≤ p.Next ∧ p.Next ≤ p.Score.Events.length
  sk : 0 ≤ p.Skipped ∧ p.Skipped ≤ 64 + p.Next
  v : ∀ v ∈ p.Voices, v.Note = -1 ∨ VoiceRuns p.Score p.Next v
  d : ∀ i j, i < j → j < p.Voices.length → p.Voices[i]!.Note = p.Voices[j]!.Note → p.Voices[i]!.Note = -1
theorem VoiceRuns.note {s : GScore} {n : Int} {v : GVoice} (h : s.ok = true) (V : VoiceRuns s n v) : 0 ≤ v.Note := by
  obtain ⟨j, h1, h2, h3, h4, _⟩ := V
  rw [← h4]; exact ((score_ev h).note j h1).1
theorem get_set {α : Type} [Inhabited α] {l : List α} {k i : Nat} {x : α} (hi : i < l.length) : (l.set k x)[i]! = if k = i then x else l[i]! := by
  rw [getElem!_pos _ i (by rw [List.length_set]; exact hi), List.getElem_set, getElem!_pos l i hi]
/-- A new voice. -/
theorem newString_ok {x : GString} {pl f : Nat} (h : (x.pluck pl f).2 = 0) : (x.pluck pl f).1.Loop.ok = true := by
  unfold GString.pluck at *
  split at h
  · next hx =>
    rw [if_pos hx]
    split at h
    · next hp =>
      rw [if_pos hp]
      split at h
      · next hf =>
        rw [if_pos hf]
        have h1 : x.Loop.ok = true := by
          unfold GString.ok at hx
          simp only [Bool.and_eq_true] at hx
          exact hx.1.1.1
        unfold GRing.ok GRing.len at *
        show (inR (((x.plucked pl f).Loop.Samples.length : Nat) : Int) 1 1024 && inR (x.plucked pl f).Loop.At 0 ((((x.plucked pl f).Loop.Samples.length : Nat) : Int) - 1)) = true
        unfold GString.plucked
        dsimp only
        rw [chg_len, chg_at]
        exact h1
      · cases h
    · cases h
  · cases h
theorem newPipe_runs {n : Int} {op : Bool} {k l : Nat} (h : (newPipe n op k l).2 = 0) : (newPipe n op k l).1.Runs := by
  unfold newPipe pipeIf at *
  split at h
  · next hx =>
    rw [if_pos hx]
    rw [Bool.and_eq_true] at hx
    have hn := hx.2
    simp only [inR, Bool.and_eq_true, decide_eq_true_eq] at hn
    have hq : (quietR n).ok = true := by
      have e : (((quietR n).Samples.length : Nat) : Int) = n := by show (((List.replicate n.toNat 0).length : Nat) : Int) = n; rw [List.length_replicate]; omega
      unfold GRing.ok GRing.len inR
      rw [e]
      show (_ && (decide ((0 : Int) ≤ 0) && _)) = true
      simp only [Bool.and_eq_true, decide_eq_true_eq]
      exact ⟨⟨by omega, by omega⟩, by omega, by show (0 : Int) ≤ n - 1; omega⟩
    have hm : ∀ r ∈ [quietR n], r.ok = true := fun r hr => by
      rw [List.mem_singleton] at hr
      rw [hr]; exact hq
    exact ⟨Nat.le_refl _, by show 1 ≤ 3; omega, rfl, rfl, hm, hm⟩
  · cases h
theorem zeros_fin (n : Nat) : allFin (List.replicate n 0) = true := by
  unfold allFin
  rw [List.all_eq_true]
  intro x hx
  rw [List.eq_of_mem_replicate hx]
  exact fin_read rd_c0
theorem ring_okf {n : Int} (h1 : 1 ≤ n) (h2 : n ≤ 1024) : (⟨List.replicate n.toNat 0, 0⟩ : GRing).okf = true := by
  unfold GRing.okf
  rw [Bool.and_eq_true]
  refine ⟨?_, zeros_fin _⟩
  unfold GRing.ok GRing.len inR
  rw [show (((List.replicate n.toNat 0).length : Nat) : Int) = n by rw [List.length_replicate]; omega]
  simp only [Bool.and_eq_true, decide_eq_true_eq]
  exact ⟨⟨by omega, by omega⟩, by omega, by omega⟩
theorem onePole_ok {k : Nat} (h : place k = true) : ((onePole k).ok && (onePole k).Kind == 1) = true := by
  have f1 := one_sub h
  have f2 := inside_fin rd_c0 rd_c1 (place_inside h)
  have f0 := fin_read rd_c0
  unfold onePole GFilter.ok used usesC usesS inR
  simp only [List.length_cons, List.length_nil]
  simp [List.range_succ, f1, f2, f0]
theorem newBow_ok {p : Int} {k l s : Nat} (h : (newBow p k l s).2 = 0) : (newBow p k l s).1.ok = true := by
  unfold newBow at *
  split at h
  · next h1 =>
    split at h
    · next h2 =>
      split at h
      · next h3 =>
        split at h
        · next h4 =>
          rw [if_pos h1, if_pos h2, if_pos h3, if_pos h4]
          simp only [inR, Bool.and_eq_true, decide_eq_true_eq] at h1
          unfold GBow.ok
          simp only [Bool.and_eq_true]
          have hb : 1 ≤ bowN p ∧ bowN p ≤ p - 1 := by unfold bowN; split <;> omega
          have h5 := onePole_ok h2
          rw [Bool.and_eq_true] at h5
          refine ⟨⟨⟨ring_okf (by omega) (by omega), ring_okf (by omega) (by omega)⟩, h5⟩, h4, inside_fin rd_c0 rd_c1 h3⟩
        · cases h
      · cases h
    · cases h
  · cases h
theorem voice_new {s : GScore} {e : GEvent} {v : GVoice} (h : voiceOf s e = some v) : v.Note = e.Note ∧ v.Instrument = e.Instrument ∧ bodyRuns (s.kind v) v := by
  unfold voiceOf at h
  dsimp only at h
  have fin : ∀ {w : GVoice}, w.Note = e.Note → w.Instrument = e.Instrument → bodyRuns s.Instruments[e.Instrument.toNat]!.Kind w → w = v → v.Note = e.Note ∧ v.Instrument = e.Instrument ∧ bodyRuns (s.kind v) v := fun h1 h2 h3 e => by
    subst e
    refine ⟨h1, h2, ?_⟩
    unfold GScore.kind
    rw [h2]; exact h3
  split at h
  · split at h
    · next k1 =>
      split at h
      · split at h
        · next hp =>
          refine fin (by rfl) (by rfl) ?_ (Option.some.inj h)
          unfold bodyRuns
          rw [if_pos k1]
          exact newString_ok hp
        · cases h
      · cases h
    · next k1 =>
      split at h
      · next k2 =>
        split at h
        · next hp =>
          refine fin (by rfl) (by rfl) ?_ (Option.some.inj h)
          unfold bodyRuns
          rw [if_neg k1, if_pos k2]
          exact newPipe_runs hp
        · cases h
      · next k2 =>
        split at h
        · next hp =>
          refine fin (by rfl) (by rfl) ?_ (Option.some.inj h)
          unfold bodyRuns
          rw [if_neg k1, if_neg k2]
          exact newBow_ok hp
        · cases h
  · cases h
end Go.Sx
/- Silence stays: bows that are not drawn, jets that are not blown, rooms to which nothing comes. -/
set_option linter.unusedVariables false
set_option linter.unusedSimpArgs false
namespace Go.Sx
open Go.Proofs Ieee
set_option maxRecDepth 100000
set_option maxHeartbeats 1000000

def Z2 (a : Nat) : Prop := a = 0 ∨ a = 2147483648
theorem zeq {a : Nat} (ha : Z2 a) : feq .f32 a 0 = true := by rcases ha with rfl | rfl <;> decide +kernel
theorem z0 : Z2 0 := .inl rfl
def GRing.nil (r : GRing) : Prop := ∀ a ∈ r.Samples, a = 0
theorem nil_mute (r : GRing) : r.mute.nil := fun a ha => (List.mem_replicate.1 ha).2
theorem nil_zero {r : GRing} (h : r.nil) : r.zero = true := by
  unfold GRing.zero
  rw [List.all_eq_true]
  intro a ha
  rw [h a ha]
  exact zeq z0
/-- A filter of finite numbers at rest. -/
structure Rest (k : Int) (f : GFilter) : Prop where
  k : f.Kind = k
  c : ∀ i : Nat, fin f.C[i]! = true
  s : f.S = [0, 0]
theorem fin0 : fin 0 = true := by decide +kernel
theorem used_fin {l : List Nat} {n : Int} (h : used l n = true) (i : Nat) : fin l[i]! = true := by
  by_cases hi : i < l.length
  · unfold used at h
    have := List.all_eq_true.1 h i (List.mem_range.2 hi)
    rw [Bool.and_eq_true] at this
    exact this.1
  · rw [List.getElem!_eq_getElem?_getD, List.getElem?_eq_none (by omega)]; exact fin0
theorem rest_mute {k : Int} {f : GFilter} (h : (f.ok && f.Kind == k) = true) : Rest k f.mute := by
  rw [Bool.and_eq_true, beq_iff_eq] at h
  have h1 := h.1
  unfold GFilter.ok at h1
  simp only [Bool.and_eq_true] at h1
  exact ⟨h.2, used_fin h1.1.2, rfl⟩
theorem rest_still {k : Int} {f : GFilter} (h : Rest k f) : f.still = true := by
  unfold GFilter.still
  rw [h.s]
  show (feq .f32 0 0 && feq .f32 0 0) = true
  rw [zeq z0]; rfl
def GBow.mute (x : GBow) : GBow := { x with Neck := x.Neck.mute, Bridge := x.Bridge.mute, Damp := x.Damp.mute }
structure GBow.Nil (x : GBow) : Prop where
  n : x.Neck.nil
  b : x.Bridge.nil
  d : Rest 1 x.Damp
  s : fin x.Slope = true
  l : fin x.Loss = true
theorem mute_okf {r : GRing} (h : r.okf = true) : r.mute.okf = true := by
  unfold GRing.okf at *
  rw [Bool.and_eq_true] at *
  refine ⟨?_, zeros_fin _⟩
  have h1 := h.1
  unfold GRing.ok GRing.len GRing.mute at *
  rw [List.length_replicate]
  exact h1
theorem mute_ok1 {k : Int} {f : GFilter} (h : (f.ok && f.Kind == k) = true) : (f.mute.ok && f.mute.Kind == k) = true := by
  rw [Bool.and_eq_true, beq_iff_eq] at *
  refine ⟨?_, h.2⟩
  have h1 := h.1
  unfold GFilter.ok GFilter.mute at *
  simp only [Bool.and_eq_true] at *
  refine ⟨h1.1, ?_⟩
  unfold used
  rw [List.all_eq_true]
  intro i hi
  rw [List.mem_range] at hi
  have : i < 2 := hi
  rcases (show i = 0 ∨ i = 1 by omega) with rfl | rfl
  · show (fin 0 && _) = true; rw [fin0]; simp
  · show (fin 0 && _) = true; rw [fin0]; simp
def jetAt (p : Nat) : Nat := clamp (fmul .f32 p (fsub .f32 (fmul .f32 p p) 1065353216)) 1065353216
def GJet.ok (x : GJet) : Bool := x.Throat.okf && x.Bore.okf && (x.Low.ok && x.Low.Kind == 1) && (x.Dc.ok && x.Dc.Kind == 5) && (fin x.Near && fin x.Far)
def GJet.step (x : GJet) (a : Nat) : GJet × Nat :=
  let l := x.Low.step x.Bore.old
  let d := x.Dc.step l.2
  ({ x with Throat := x.Throat.push (kept (fsub .f32 a (fmul .f32 x.Near d.2))), Bore := x.Bore.push (kept (fadd .f32 (jetAt x.Throat.old) (fmul .f32 x.Far d.2))), Low := l.1, Dc := d.1 }, x.Bore.old)
def GJet.mute (x : GJet) : GJet := { x with Throat := x.Throat.mute, Bore := x.Bore.mute, Low := x.Low.mute, Dc := x.Dc.mute }
def GJet.silent (x : GJet) : Bool := x.Throat.zero && x.Bore.zero && x.Low.still && x.Dc.still
structure GJet.Nil (x : GJet) : Prop where
  t : x.Throat.nil
  b : x.Bore.nil
  l : Rest 1 x.Low
  d : Rest 5 x.Dc
  n : fin x.Near = true
  f : fin x.Far = true
structure GRoom.Nil (x : GRoom) : Prop where
  e : x.Early.nil
  t : ∀ t ∈ x.Taps, fin t.Gain = true
  c2 : x.Combs.length = 2
  c : ∀ c ∈ x.Combs, c.Ring.nil ∧ fin c.Gain = true
  l4 : x.Loops.length = 4
  l : ∀ r ∈ x.Loops, r.nil
  d4 : x.Damps.length = 4
  d : ∀ f ∈ x.Damps, Rest 1 f
  g4 : x.Gains.length = 4
  g : ∀ a ∈ x.Gains, fin a = true
  dry : fin x.Dry = true
  wet : fin x.Wet = true
theorem room_mute_ok {x : GRoom} (h : x.ok = true) (c2 : x.Combs.length = 2) (l4 : x.Loops.length = 4) (d4 : x.Damps.length = 4) (g4 : x.Gains.length = 4) : x.mute.ok = true ∧ x.mute.Nil := by
  rw [room_ok] at *
  simp only [Bool.and_eq_true, List.all_eq_true] at h
  obtain ⟨⟨⟨⟨⟨⟨⟨⟨h1, h2⟩, h3⟩, h4⟩, h5⟩, h6⟩, h7⟩, h8⟩, h9⟩ := h
  have ch : ∀ c ∈ x.Combs, c.Ring.okf = true ∧ fin c.Gain = true := fun c hc => by
    have := h3 c hc
    unfold GComb.ok at this
    rw [Bool.and_eq_true] at this
    exact this
  have dh : ∀ f ∈ x.Damps, (f.ok && f.Kind == 1) = true := fun f hf => by rw [Bool.and_eq_true]; exact h5 f hf
  unfold allFin at *
  rw [List.all_eq_true] at h7
  refine ⟨?_, nil_mute _, fun t ht => ?_, by simp [GRoom.mute, c2], fun c hc => ?_, by simp [GRoom.mute, l4], fun r hr => ?_, by simp [GRoom.mute, d4], fun f hf => ?_, g4, h7, h8, h9⟩
  · simp only [Bool.and_eq_true, List.all_eq_true]
    have e1 : x.mute.Early.len = x.Early.len := by show (((List.replicate _ 0).length : Nat) : Int) = _; rw [List.length_replicate]; rfl
    refine ⟨⟨⟨⟨⟨⟨⟨⟨mute_okf h1, h2⟩, fun c hc => ?_⟩, fun r hr => ?_⟩, fun f hf => ?_⟩, fun t ht => ?_⟩, h7⟩, h8⟩, h9⟩
    · obtain ⟨d, hd, rfl⟩ := List.mem_map.1 hc
      unfold GComb.ok
      rw [mute_okf (ch d hd).1, (ch d hd).2]; rfl
    · obtain ⟨d, hd, rfl⟩ := List.mem_map.1 hr
      exact mute_okf (h4 d hd)
    · obtain ⟨d, hd, rfl⟩ := List.mem_map.1 hf
      have := mute_ok1 (dh d hd)
      rw [Bool.and_eq_true] at this
      exact this
    · rw [e1]; exact h6 t ht
  · have := h6 t ht
    unfold GTap.ok at this
    rw [Bool.and_eq_true] at this
    exact this.2
  · obtain ⟨d, hd, rfl⟩ := List.mem_map.1 hc
    exact ⟨nil_mute _, (ch d hd).2⟩
  · obtain ⟨d, hd, rfl⟩ := List.mem_map.1 hr
    exact nil_mute _
  · obtain ⟨d, hd, rfl⟩ := List.mem_map.1 hf
    exact rest_mute (dh d hd)
theorem room_nil_zero {x : GRoom} (N : x.Nil) : x.zero = true := by
  unfold GRoom.zero
  rw [nil_zero N.e]
  have h1 : x.Combs.all (fun c => c.Ring.zero) = true := List.all_eq_true.2 fun c hc => nil_zero (N.c c hc).1
  have h2 : x.Loops.all GRing.zero = true := List.all_eq_true.2 fun r hr => nil_zero (N.l r hr)
  have h3 : x.Damps.all GFilter.still = true := List.all_eq_true.2 fun f hf => rest_still (N.d f hf)
  rw [h1, h2, h3]; rfl
end Go.Sx
/- What is told of rings, filters, strings, bows, jets and pipes, line by line. -/
set_option linter.unusedVariables false
set_option linter.unusedSimpArgs false
namespace Go.Sx
open Go.Proofs Go.RowKit
set_option maxRecDepth 100000
set_option maxHeartbeats 1000000

def GRing.line (r : GRing) : List UInt8 := ringL r.At.toNat r.Samples
def GFilter.line (f : GFilter) : List UInt8 := filtL f.Kind.toNat f.C f.S
/-- A word, and samples behind it. -/
def headL (w : List UInt8) (ns : List Nat) : List UInt8 := w ++ 32 :: smpL ns
structure RingB (r : GRing) : Prop where
  ne : r.Samples ≠ []
  bits : B32 r.Samples
  len : r.Samples.length ≤ 1024
  a0 : 0 ≤ r.At
  a1 : r.At ≤ 1024
theorem ring_b {r : GRing} (h : r.ok = true) (hb : B32 r.Samples) : RingB r := by
  unfold GRing.ok inR GRing.len at h
  simp only [Bool.and_eq_true, decide_eq_true_eq] at h
  obtain ⟨⟨h1, h2⟩, h3, h4⟩ := h
  refine ⟨fun e => ?_, hb, by omega, by omega, by omega⟩
  rw [e] at h1
  simp at h1
structure FiltB (f : GFilter) : Prop where
  k0 : 1 ≤ f.Kind
  k1 : f.Kind ≤ 5
  c3 : f.C.length = 3
  s2 : f.S.length = 2
  cb : B32 f.C
  sb : B32 f.S
theorem dec_le {n k : Nat} (h : n < 10 ^ (k + 1)) : (Lib.decDigits n).length ≤ k + 1 := by
  rw [Lib.decDigits_length]
  exact nDig_le k _ h
theorem RingB.cut {r : GRing} (h : RingB r) : cutL 32 r.line = Lib.decDigits r.Samples.length :: Lib.decDigits r.At.toNat :: r.Samples.map bitL := ring_cut h.bits h.ne
theorem RingB.mem {r : GRing} (h : RingB r) : ∀ b ∈ r.line, b ≠ 10 := ring_mem h.bits
theorem RingB.size {r : GRing} (h : RingB r) : r.line.length ≤ 9300 := by
  have h1 := dec_le (n := r.Samples.length) (k := 9) (by have := h.len; omega)
  have h2 := dec_le (n := r.At.toNat) (k := 9) (by have := h.a1; omega)
  have h3 := smp_le h.bits
  have := h.len
  unfold GRing.line ringL
  simp only [List.length_append, List.length_cons]
  omega
theorem FiltB.cut {f : GFilter} (h : FiltB f) : cutL 32 f.line = fwL :: Lib.decDigits f.Kind.toNat :: (f.C ++ f.S).map bitL :=
  filt_cut h.cb h.sb (fun e => by have := h.c3; rw [e] at this; simp at this) (fun e => by have := h.s2; rw [e] at this; simp at this)
theorem FiltB.mem {f : GFilter} (h : FiltB f) : ∀ b ∈ f.line, b ≠ 10 := filt_mem h.cb h.sb
theorem FiltB.size {f : GFilter} (h : FiltB f) : f.line.length ≤ 80 := by
  have h1 := dec_le (n := f.Kind.toNat) (k := 1) (by have := h.k1; omega)
  have h2 := smp_le h.cb
  have h3 := smp_le h.sb
  have := h.c3
  have := h.s2
  have e : fwL.length = 6 := rfl
  unfold GFilter.line filtL
  simp only [List.length_append, List.length_cons]
  omega
theorem head_cut {w : List UInt8} {ns : List Nat} (hw : ∀ b ∈ w, b ≠ 32) (h : B32 ns) (hn : ns ≠ []) : cutL 32 (headL w ns) = w :: ns.map bitL := by
  unfold headL
  rw [cut_pre hw, smp_cut h hn]
theorem head_mem {w : List UInt8} {ns : List Nat} (hw : ∀ b ∈ w, b ≠ 10) (h : B32 ns) : ∀ b ∈ headL w ns, b ≠ 10 := by
  intro b hb
  unfold headL at hb
  simp only [List.mem_append, List.mem_cons] at hb
  rcases hb with hb | rfl | hb
  · exact hw b hb
  · decide
  · exact smp_mem h b hb
theorem head_size {w : List UInt8} {ns : List Nat} (h : B32 ns) : (headL w ns).length ≤ w.length + 1 + 9 * ns.length := by
  have := smp_le h
  unfold headL
  simp only [List.length_append, List.length_cons]
  omega
theorem lin_size {k : Nat} : ∀ {ls : List (List UInt8)}, (∀ l ∈ ls, l.length ≤ k) → (linL ls).length ≤ (k + 1) * ls.length
  | [], _ => Nat.le_refl _
  | l :: r, h => by
    have h1 := h l (List.mem_cons_self ..)
    have h2 := lin_size fun x hx => h x (List.mem_cons_of_mem (a := x) l hx)
    rw [linL, List.length_append, List.length_cons, List.length_cons, Nat.mul_succ]
    omega
def jetW : List UInt8 := [106, 101, 116]
def bowW : List UInt8 := [98, 111, 119]
def GJet.lines (x : GJet) : List (List UInt8) := [headL jetW [x.Near, x.Far], x.Low.line, x.Dc.line, x.Throat.line, x.Bore.line]
def GBow.lines (x : GBow) : List (List UInt8) := [headL bowW [x.Slope, x.Loss], x.Damp.line, x.Neck.line, x.Bridge.line]
structure JetB (x : GJet) : Prop where
  t : RingB x.Throat
  b : RingB x.Bore
  l : FiltB x.Low
  d : FiltB x.Dc
  n : B32 [x.Near, x.Far]
structure BowB (x : GBow) : Prop where
  n : RingB x.Neck
  b : RingB x.Bridge
  d : FiltB x.Damp
  s : B32 [x.Slope, x.Loss]
theorem JetB.mem {x : GJet} (h : JetB x) : ∀ l ∈ x.lines, ∀ b ∈ l, b ≠ 10 := by
  intro l hl
  simp only [GJet.lines, List.mem_cons, List.not_mem_nil, or_false] at hl
  rcases hl with rfl | rfl | rfl | rfl | rfl
  · exact head_mem (by decide) h.n
  · exact h.l.mem
  · exact h.d.mem
  · exact h.t.mem
  · exact h.b.mem
theorem JetB.cut {x : GJet} (h : JetB x) : cutL 10 (linL x.lines) = x.lines ++ [[]] := lin_cut h.mem
theorem JetB.size {x : GJet} (h : JetB x) : (linL x.lines).length ≤ 46505 := by
  refine lin_size (k := 9300) fun l hl => ?_
  simp only [GJet.lines, List.mem_cons, List.not_mem_nil, or_false] at hl
  rcases hl with rfl | rfl | rfl | rfl | rfl
  · exact Nat.le_trans (head_size h.n) (show 3 + 1 + 9 * 2 ≤ 9300 by decide)
  · exact Nat.le_trans h.l.size (by decide)
  · exact Nat.le_trans h.d.size (by decide)
  · exact h.t.size
  · exact h.b.size
theorem BowB.mem {x : GBow} (h : BowB x) : ∀ l ∈ x.lines, ∀ b ∈ l, b ≠ 10 := by
  intro l hl
  simp only [GBow.lines, List.mem_cons, List.not_mem_nil, or_false] at hl
  rcases hl with rfl | rfl | rfl | rfl
  · exact head_mem (by decide) h.s
  · exact h.d.mem
  · exact h.n.mem
  · exact h.b.mem
theorem BowB.cut {x : GBow} (h : BowB x) : cutL 10 (linL x.lines) = x.lines ++ [[]] := lin_cut h.mem
theorem BowB.size {x : GBow} (h : BowB x) : (linL x.lines).length ≤ 37204 := by
  refine lin_size (k := 9300) fun l hl => ?_
  simp only [GBow.lines, List.mem_cons, List.not_mem_nil, or_false] at hl
  rcases hl with rfl | rfl | rfl | rfl
  · exact Nat.le_trans (head_size h.s) (show 3 + 1 + 9 * 2 ≤ 9300 by decide)
  · exact Nat.le_trans h.d.size (by decide)
  · exact h.n.size
  · exact h.b.size
end Go.Sx
