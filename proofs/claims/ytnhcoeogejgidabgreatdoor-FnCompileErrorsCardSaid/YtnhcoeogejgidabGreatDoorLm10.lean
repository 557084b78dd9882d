/- Rooms that stay valid; how long a room sounds, told by what it plays; gains of drawn rooms. -/
import Derived.Test.YtnhcoeogejgidabGreatDoorLm26
import Derived.Test.YtnhcoeogejgidabGreatDoorLk50
import Derived.Test.YtnhcoeogejgidabGreatDoorTab
import Derived.Test.YtnhcoeogejgidabGreatDoorLk30
import Derived.Test.YtnhcoeogejgidabGreatDoorTabE
import Derived.Test.YtnhcoeogejgidabGreatDoorLp5
import Derived.Test.YtnhcoeogejgidabGreatDoorLr7
import Derived.Test.YtnhcoeogejgidabGreatDoorLpx
import Derived.Test.YtnhcoeogejgidabGreatDoorShlS
import Derived.Test.YtnhcoeogejgidabGreatDoorLf8
import Derived.Test.YtnhcoeogejgidabGreatDoorLm22
set_option linter.unusedVariables false
set_option linter.unusedSimpArgs false
namespace Go.Sx
open Go.Proofs
set_option maxRecDepth 100000
set_option maxHeartbeats 1000000

def keepW (v : Int) : Nat := fdiv .f32 (FloatKind.f32.nearest v) 1090519040
end Go.Sx
/- How long a room sounds, as the rule and the program tell it. -/
set_option linter.unusedVariables false
set_option linter.unusedSimpArgs false
namespace Go.Sx
open Go.Proofs
set_option maxRecDepth 100000
set_option maxHeartbeats 1000000

section
variable {h0 h : Heap} {x : GRoom} {most : Int}
def tup (r : Int × Int) : Value := .tuple ⟨[.int .i64 r.1, .int .i64 r.2]⟩
/-- Integers in a block. -/
def ivs (rs : List Int) : Array Value := ⟨rs.map (.int .i64)⟩
theorem ivs_get {rs : List Int} {i : Nat} (hi : i < rs.length) : (ivs rs)[i]? = some (.int .i64 rs[i]!) := by
  unfold ivs
  rw [List.getElem?_toArray, List.getElem?_map, List.getElem?_eq_getElem hi, getElem!_pos _ i hi]; rfl
theorem Look.oV {L : List Blk} {g i : Nat} {rs : List Int} {K : Int → Prop} (l : Look L g (ivs rs)) (M : Mem h0 h L) (hi : i < rs.length) (H : K rs[i]!) : Sx.oI .i64 (cell h ((⟨g, 0, none⟩ : Addr).add (i * 1))) K := by
  rw [add_none, Nat.zero_add, Nat.mul_one]
  exact o_i (by rw [M.cell l, ivs_get hi]) H
end
end Go.Sx
/- The voice of a start: both. -/
set_option linter.unusedVariables false
set_option linter.unusedSimpArgs false
namespace Go.Sx
open Go.Proofs Ieee
set_option maxRecDepth 100000
set_option maxHeartbeats 4000000

/-- A start in good events is the one that is found under its note. -/
theorem start_is {es : List GEvent} {ni : Int} (G : EvGood es ni) {e : GEvent} (hs : isSt e = true) (hm : e ∈ es) : startEv es e.Note = some e := by
  unfold startEv
  cases hf : es.find? fun x => isSt x && x.Note == e.Note with
  | none =>
    have := List.find?_eq_none.1 hf e hm
    exact absurd (by rw [hs]; simp) this
  | some x =>
    have hx := List.mem_of_find?_eq_some hf
    have hp := List.find?_some hf
    simp only [Bool.and_eq_true, beq_iff_eq] at hp
    obtain ⟨i, hi, rfl⟩ := List.mem_iff_getElem.1 hx
    obtain ⟨j, hj, rfl⟩ := List.mem_iff_getElem.1 hm
    have := G.st1 i j hi hj (by rw [getElem!_pos es i hi]; exact hp.1) (by rw [getElem!_pos es j hj]; exact hs) (by rw [getElem!_pos es i hi, getElem!_pos es j hj]; exact hp.2)
    subst this
    rfl
end Go.Sx
/- An event happens: the rule's and the program's. -/
set_option linter.unusedVariables false
set_option linter.unusedSimpArgs false
namespace Go.Sx
open Go.Proofs
set_option maxRecDepth 100000
set_option maxHeartbeats 2000000

def eldest (vs : List GVoice) : Nat → Nat
  | 0 => 0
  | i + 1 => if vs[i]!.Born < vs[eldest vs i]!.Born then i else eldest vs i
def isFreeV (v : GVoice) : Bool := v.Note == -1
def placeOf (vs : List GVoice) : Nat := if firstAt isFreeV vs = -1 then eldest vs vs.length else (firstAt isFreeV vs).toNat
theorem eldest_lt {vs : List GVoice} (h : 1 ≤ vs.length) : ∀ i, i ≤ vs.length → eldest vs i < vs.length
  | 0, _ => h
  | i + 1, hi => by
    unfold eldest
    split
    · omega
    · exact eldest_lt h i (by omega)
theorem placeOf_lt {vs : List GVoice} (h : 1 ≤ vs.length) : placeOf vs < vs.length := by
  unfold placeOf
  split
  · exact eldest_lt h _ (Nat.le_refl _)
  · next hf =>
    rcases first_cases isFreeV vs with ⟨e, _⟩ | ⟨n, hn, e, _⟩
    · exact absurd e hf
    · rw [e]; exact hn
def GScore.kind (s : GScore) (v : GVoice) : Int := s.Instruments[v.Instrument.toNat]!.Kind
def goneV (s : GScore) (v : GVoice) : GVoice := if s.kind v = 1 then { v with Gone := true, Drive := 0, String := { v.String with Loss := fmul .f32 v.String.Loss half } } else { v with Gone := true, Drive := 0 }
def stopV (s : GScore) (n : Int) (v : GVoice) : GVoice := if v.Note = n then goneV s v else v
def GPlayer.happen (p : GPlayer) (e : GEvent) : GPlayer :=
  if e.Kind = 2 then match voiceOf p.Score e with | some v => { p with Voices := p.Voices.set (placeOf p.Voices) v } | none => { p with Skipped := p.Skipped + 1 }
  else { p with Voices := p.Voices.map (stopV p.Score e.Note) }
/-- The event of a player that lies at a place. -/
def EvAt (h : Heap) (q e1 : Addr) (n : Nat) : Prop := ∃ a5 l5 c5, cell h (q.add 5) = some (.slice (some a5) l5 c5) ∧ e1 = a5.add (n * 6) ∧ n < l5
section
variable {h0 h : Heap} {q e1 : Addr} {F : Fr} {L : List Blk} {p : GPlayer} {n : Nat}
theorem EvAt.ext {h' : Heap} (E : EvAt h q e1 n) (x : Ext h h') : EvAt h' q e1 n := by
  obtain ⟨a5, l5, c5, e, r⟩ := E
  exact ⟨a5, l5, c5, x.cell e, r⟩
end
end Go.Sx
/- An event happens: both walks. -/
set_option linter.unusedVariables false
set_option linter.unusedSimpArgs false
namespace Go.Sx
open Go.Proofs
set_option maxRecDepth 100000
set_option maxHeartbeats 2000000

section
variable {h0 h : Heap} {q e1 : Addr} {F : Fr} {L : List Blk} {p : GPlayer} {n : Nat} {e : GEvent}
theorem happen_start (hk : e.Kind = 2) : p.happen e = match voiceOf p.Score e with | some v => { p with Voices := p.Voices.set (placeOf p.Voices) v } | none => { p with Skipped := p.Skipped + 1 } := by unfold GPlayer.happen; rw [if_pos hk] <;> (cases voiceOf p.Score e <;> rfl)
theorem happen_stop (hk : ¬ e.Kind = 2) : p.happen e = { p with Voices := p.Voices.map (stopV p.Score e.Note) } := by unfold GPlayer.happen; rw [if_neg hk]
end
end Go.Sx
/- Finite numbers: what reads as a number is finite; one less a part of one. -/
set_option linter.unusedVariables false
set_option linter.unusedSimpArgs false
namespace Go.Sx
open Ieee

theorem word_fin (t : Bool) : feq .f32 (cn .f32 (FloatKind.f32.format.word t 0)) 0 = true := by cases t <;> decide +kernel
theorem sub_self_word {a m : Nat} {s : Bool} {e : Int} (h : FloatKind.f32.format.read a = .number s m e) : ∃ t, FloatKind.f32.format.sub a a = some (FloatKind.f32.format.word t 0) := by
  have hsum : ∃ t, (Datum.number s m e).sum (Datum.number s m e).opposite = some (.number t (signed s m (e - min e e).toNat + signed (!s) m (e - min e e).toNat).natAbs (min e e)) := ⟨_, rfl⟩
  obtain ⟨t, hsum⟩ := hsum
  have z : ∀ k, signed s m k + signed (!s) m k = 0 := fun k => by
    cases s
    · rw [signed_f]; show _ + signed true m k = 0; rw [signed_t]; omega
    · rw [signed_t]; show _ + signed false m k = 0; rw [signed_f]; omega
  rw [z] at hsum
  refine ⟨t, ?_⟩
  unfold Format.sub
  rw [h, hsum]
  exact congrArg some (nearest_zero _ _ _)
theorem fin_read {a m : Nat} {s : Bool} {e : Int} (h : FloatKind.f32.format.read a = .number s m e) : fin a = true := by
  obtain ⟨t, ht⟩ := sub_self_word h
  unfold fin fsub
  rw [ht, Option.getD_some]
  exact word_fin t
theorem inside_fin {a c d n k : Nat} {j i : Int} (hc : FloatKind.f32.format.read c = .number false n j) (hd : FloatKind.f32.format.read d = .number false k i) (h : inside a c d = true) : fin a = true := by
  obtain ⟨B, hB⟩ : ∃ B : Nat, 1100 ≤ B := ⟨1100, Nat.le_refl _⟩
  obtain ⟨s, m, e, hr, _⟩ := inside_read hB hc hd h
  exact fin_read hr
theorem rd_c0 : FloatKind.f32.format.read 0 = .number false 0 (-149) := by decide +kernel
theorem rd_c1 : FloatKind.f32.format.read 1065353216 = .number false (2 ^ 23) (-23) := by decide +kernel
theorem place_inside {k : Nat} (h : place k = true) : inside k 0 1065353216 = true := by
  unfold place at h
  unfold inside fle
  rw [Bool.and_eq_true] at *
  exact ⟨h.1, by rw [show (FloatKind.f32.format.order k 1065353216 == some .lt) = true from h.2]; rfl⟩
theorem one_sub {k : Nat} (h : place k = true) : fin (fsub .f32 1065353216 k) = true := by
  obtain ⟨B, hB⟩ : ∃ B : Nat, 1100 ≤ B := ⟨1100, Nat.le_refl _⟩
  obtain ⟨s', m', e', hr', hs', h1', h2'⟩ := inside_read hB rd_c0 rd_c1 (place_inside h)
  have v1 : sv B (2 ^ 23) (-23) = 2 ^ B := by unfold sv; rw [← Nat.pow_add]; congr 1; omega
  have hb2 := read_single k hr'
  have hm : ∃ m, m = (2 : Nat) ^ 23 := ⟨_, rfl⟩
  obtain ⟨m, hm⟩ := hm
  have hr := rd_c1
  rw [← hm] at hr v1 h2'
  have he : ∃ e : Int, e = -23 := ⟨_, rfl⟩
  obtain ⟨e, he⟩ := he
  rw [← he] at hr v1 h2'
  have hbase : ∃ b : Int, b = min e e' := ⟨_, rfl⟩
  obtain ⟨b, hbase⟩ := hbase
  have w1 : sv B m e = m * 2 ^ (e - b).toNat * 2 ^ (b + (B : Int)).toNat := by unfold sv; rw [Nat.mul_assoc, ← Nat.pow_add]; congr 2; omega
  have w2 : sv B m' e' = m' * 2 ^ (e' - b).toNat * 2 ^ (b + (B : Int)).toNat := by unfold sv; rw [Nat.mul_assoc, ← Nat.pow_add]; congr 2; omega
  have hneg : signed (!s') m' (e' - b).toNat = -((m' * 2 ^ (e' - b).toNat : Nat) : Int) := by
    cases s'
    · exact signed_t _ _
    · rw [hs' rfl, Nat.zero_mul]
      show signed false 0 _ = _
      rw [signed_f, Nat.zero_mul]; rfl
  have hT : ∃ T : Nat, m * 2 ^ (e - b).toNat = T + m' * 2 ^ (e' - b).toNat ∧ T * 2 ^ (b + (B : Int)).toNat ≤ 2 ^ B := by
    rw [w1, w2] at h2'
    rw [w1] at v1
    have hle := Nat.le_of_mul_le_mul_right h2' (Nat.two_pow_pos _)
    refine ⟨m * 2 ^ (e - b).toNat - m' * 2 ^ (e' - b).toNat, by omega, ?_⟩
    rw [← v1]
    exact Nat.mul_le_mul_right _ (Nat.sub_le _ _)
  obtain ⟨T, hT1, hT3⟩ := hT
  have hsum : ∃ t, (Datum.number false m e).sum (Datum.number s' m' e').opposite = some (.number t T b) := by
    have : ∃ t, (Datum.number false m e).sum (Datum.number s' m' e').opposite = some (.number t (signed false m (e - min e e').toNat + signed (!s') m' (e' - min e e').toNat).natAbs (min e e')) := ⟨_, rfl⟩
    obtain ⟨t, this⟩ := this
    refine ⟨t, ?_⟩
    rw [this, ← hbase, hneg, signed_f, hT1]
    have : ((T + m' * 2 ^ (e' - b).toNat : Nat) : Int) + -((m' * 2 ^ (e' - b).toNat : Nat) : Int) = (T : Int) := by push_cast; omega
    rw [this, Int.natAbs_natCast]
  obtain ⟨t, hsum⟩ := hsum
  have hsub : FloatKind.f32.format.sub 1065353216 k = some (FloatKind.f32.format.nearest t T b) := by
    unfold Format.sub
    rw [hr, hr', hsum]; rfl
  have hf : fsub .f32 1065353216 k = cn .f32 (FloatKind.f32.format.nearest t T b) := by
    unfold fsub
    rw [hsub, Option.getD_some]
  have fromR : ∀ {w n : Nat} {q : Int}, FloatKind.f32.format.read w = .number t n q → fin (cn .f32 w) = true := fun {w n q} hw => by
    rw [number_cn hw]; exact fin_read hw
  rw [hf]
  by_cases hT0 : T = 0
  · subst hT0
    rw [nearest_zero]
    exact fromR (zero32 t)
  obtain ⟨e1, e2, e3, e4⟩ := f32_consts
  have hle : VLE T b 0 := sv_vle hB hT0 (by omega) (by omega) (by rw [show ((0 : Int) + (B : Int)).toNat = B by omega]; exact hT3)
  obtain ⟨m2, p2, hr2, _⟩ := nearest_read FloatKind.f32.format t hT0 hle (by rw [e1, e2]; omega) (by rw [e1, e2, e3, e4]; decide)
  exact fromR hr2
end Go.Sx
/- New players. -/
set_option linter.unusedVariables false
set_option linter.unusedSimpArgs false
namespace Go.Sx
open Go.Proofs
set_option maxRecDepth 100000
set_option maxHeartbeats 1000000

def freeV : GVoice := { z_Voice with Note := -1 }
end Go.Sx
/- Players that run: what a step asks for, and that it leaves it so. -/
set_option linter.unusedVariables false
set_option linter.unusedSimpArgs false
namespace Go.Sx
open Go.Proofs
set_option maxRecDepth 100000
set_option maxHeartbeats 1000000

def newV (s : GScore) (v : GVoice) : GVoice := if v.Note = -1 then v else if (v.Gone && (v.sound (s.kind v)).1.quiet (s.kind v)) = true then freeV else (v.sound (s.kind v)).1
def addV (s : GScore) (a : Nat) (v : GVoice) : Nat := if v.Note = -1 then a else fadd .f32 a (v.sound (s.kind v)).2
def GPlayer.sounded (p : GPlayer) : GPlayer × Nat := ({ p with Voices := p.Voices.map (newV p.Score), Now := p.Now + 1 }, clamp (p.Voices.foldl (addV p.Score) 0) one32)
def GPlayer.now1 (p : GPlayer) : Bool := decide (p.Next < p.Score.Events.length) && (p.Score.Events[p.Next.toNat]!.At == p.Now)
def GPlayer.next (p : GPlayer) : GPlayer := { p.happen p.Score.Events[p.Next.toNat]! with Next := p.Next + 1 }
def GPlayer.run : Nat → GPlayer → GPlayer
  | 0, p => p
  | k + 1, p => if p.now1 = true then GPlayer.run k p.next else p
def GPlayer.step (p : GPlayer) : GPlayer × Nat := (GPlayer.run (p.Score.Events.length - p.Next.toNat) p).sounded
/-- A voice of a note that has started, its body in order. -/
def VoiceRuns (s : GScore) (next : Int) (v : GVoice) : Prop := ∃ j : Nat, j < s.Events.length ∧ (j : Int) < next ∧ isSt s.Events[j]! = true ∧ s.Events[j]!.Note = v.Note ∧ s.Events[j]!.Instrument = v.Instrument ∧ bodyRuns (s.kind v) v
structure GPlayer.Runs (p : GPlayer) : Prop where
  s : p.Score.ok = true
  n1 : 1 ≤ p.Voices.length
  n6 : p.Voices.length ≤ 6
  nx : 0 ≤ p.Next ∧ p.Next ≤ p.Score.Events.length
  sk : 0 ≤ p.Skipped ∧ p.Skipped ≤ 64 + p.Next
  v : ∀ v ∈ p.Voices, v.Note = -1 ∨ VoiceRuns p.Score p.Next v
  d : ∀ i j, i < j → j < p.Voices.length → p.Voices[i]!.Note = p.Voices[j]!.Note → p.Voices[i]!.Note = -1
theorem VoiceRuns.note {s : GScore} {n : Int} {v : GVoice} (h : s.ok = true) (V : VoiceRuns s n v) : 0 ≤ v.Note := by
  obtain ⟨j, h1, h2, h3, h4, _⟩ := V
  rw [← h4]; exact ((score_ev h).note j h1).1
theorem VoiceRuns.ins {s : GScore} {n : Int} {v : GVoice} (h : s.ok = true) (V : VoiceRuns s n v) : 0 ≤ v.Instrument ∧ v.Instrument < s.Instruments.length := by
  obtain ⟨j, h1, h2, h3, h4, h5, _⟩ := V
  rw [← h5]
  refine start_ins h (start_is (score_ev h) h3 ?_)
  exact mem_get h1
theorem get_set {α : Type} [Inhabited α] {l : List α} {k i : Nat} {x : α} (hi : i < l.length) : (l.set k x)[i]! = if k = i then x else l[i]! := by
  rw [getElem!_pos _ i (by rw [List.length_set]; exact hi), List.getElem_set, getElem!_pos l i hi]
/-- A new voice. -/
theorem newString_ok {x : GString} {pl f : Nat} (h : (x.pluck pl f).2 = 0) : (x.pluck pl f).1.Loop.ok = true := by
  unfold GString.pluck at *
  split at h
  · next hx =>
    rw [if_pos hx]
    split at h
    · next hp =>
      rw [if_pos hp]
      split at h
      · next hf =>
        rw [if_pos hf]
        have h1 : x.Loop.ok = true := by
          unfold GString.ok at hx
          simp only [Bool.and_eq_true] at hx
          exact hx.1.1.1
        unfold GRing.ok GRing.len at *
        show (inR (((x.plucked pl f).Loop.Samples.length : Nat) : Int) 1 1024 && inR (x.plucked pl f).Loop.At 0 ((((x.plucked pl f).Loop.Samples.length : Nat) : Int) - 1)) = true
        unfold GString.plucked
        dsimp only
        rw [chg_len, chg_at]
        exact h1
      · cases h
    · cases h
  · cases h
theorem newPipe_runs {n : Int} {op : Bool} {k l : Nat} (h : (newPipe n op k l).2 = 0) : (newPipe n op k l).1.Runs := by
  unfold newPipe pipeIf at *
  split at h
  · next hx =>
    rw [if_pos hx]
    rw [Bool.and_eq_true] at hx
    have hn := hx.2
    simp only [inR, Bool.and_eq_true, decide_eq_true_eq] at hn
    have hq : (quietR n).ok = true := by
      have e : (((quietR n).Samples.length : Nat) : Int) = n := by show (((List.replicate n.toNat 0).length : Nat) : Int) = n; rw [List.length_replicate]; omega
      unfold GRing.ok GRing.len inR
      rw [e]
      show (_ && (decide ((0 : Int) ≤ 0) && _)) = true
      simp only [Bool.and_eq_true, decide_eq_true_eq]
      exact ⟨⟨by omega, by omega⟩, by omega, by show (0 : Int) ≤ n - 1; omega⟩
    have hm : ∀ r ∈ [quietR n], r.ok = true := fun r hr => by
      rw [List.mem_singleton] at hr
      rw [hr]; exact hq
    exact ⟨Nat.le_refl _, by show 1 ≤ 3; omega, rfl, rfl, hm, hm⟩
  · cases h
theorem zeros_fin (n : Nat) : allFin (List.replicate n 0) = true := by
  unfold allFin
  rw [List.all_eq_true]
  intro x hx
  rw [List.eq_of_mem_replicate hx]
  exact fin_read rd_c0
theorem ring_okf {n : Int} (h1 : 1 ≤ n) (h2 : n ≤ 1024) : (⟨List.replicate n.toNat 0, 0⟩ : GRing).okf = true := by
  unfold GRing.okf
  rw [Bool.and_eq_true]
  refine ⟨?_, zeros_fin _⟩
  unfold GRing.ok GRing.len inR
  rw [show (((List.replicate n.toNat 0).length : Nat) : Int) = n by rw [List.length_replicate]; omega]
  simp only [Bool.and_eq_true, decide_eq_true_eq]
  exact ⟨⟨by omega, by omega⟩, by omega, by omega⟩
theorem onePole_ok {k : Nat} (h : place k = true) : ((onePole k).ok && (onePole k).Kind == 1) = true := by
  have f1 := one_sub h
  have f2 := inside_fin rd_c0 rd_c1 (place_inside h)
  have f0 := fin_read rd_c0
  unfold onePole GFilter.ok used usesC usesS inR
  simp only [List.length_cons, List.length_nil]
  simp [List.range_succ, f1, f2, f0]
theorem newBow_ok {p : Int} {k l s : Nat} (h : (newBow p k l s).2 = 0) : (newBow p k l s).1.ok = true := by
  unfold newBow at *
  split at h
  · next h1 =>
    split at h
    · next h2 =>
      split at h
      · next h3 =>
        split at h
        · next h4 =>
          rw [if_pos h1, if_pos h2, if_pos h3, if_pos h4]
          simp only [inR, Bool.and_eq_true, decide_eq_true_eq] at h1
          unfold GBow.ok
          simp only [Bool.and_eq_true]
          have hb : 1 ≤ bowN p ∧ bowN p ≤ p - 1 := by unfold bowN; split <;> omega
          have h5 := onePole_ok h2
          rw [Bool.and_eq_true] at h5
          refine ⟨⟨⟨ring_okf (by omega) (by omega), ring_okf (by omega) (by omega)⟩, h5⟩, h4, inside_fin rd_c0 rd_c1 h3⟩
        · cases h
      · cases h
    · cases h
  · cases h
theorem voice_new {s : GScore} {e : GEvent} {v : GVoice} (h : voiceOf s e = some v) : v.Note = e.Note ∧ v.Instrument = e.Instrument ∧ bodyRuns (s.kind v) v := by
  unfold voiceOf at h
  dsimp only at h
  have fin : ∀ {w : GVoice}, w.Note = e.Note → w.Instrument = e.Instrument → bodyRuns s.Instruments[e.Instrument.toNat]!.Kind w → w = v → v.Note = e.Note ∧ v.Instrument = e.Instrument ∧ bodyRuns (s.kind v) v := fun h1 h2 h3 e => by
    subst e
    refine ⟨h1, h2, ?_⟩
    unfold GScore.kind
    rw [h2]; exact h3
  split at h
  · split at h
    · next k1 =>
      split at h
      · split at h
        · next hp =>
          refine fin (by rfl) (by rfl) ?_ (Option.some.inj h)
          unfold bodyRuns
          rw [if_pos k1]
          exact newString_ok hp
        · cases h
      · cases h
    · next k1 =>
      split at h
      · next k2 =>
        split at h
        · next hp =>
          refine fin (by rfl) (by rfl) ?_ (Option.some.inj h)
          unfold bodyRuns
          rw [if_neg k1, if_pos k2]
          exact newPipe_runs hp
        · cases h
      · next k2 =>
        split at h
        · next hp =>
          refine fin (by rfl) (by rfl) ?_ (Option.some.inj h)
          unfold bodyRuns
          rw [if_neg k1, if_neg k2]
          exact newBow_ok hp
        · cases h
  · cases h
end Go.Sx
