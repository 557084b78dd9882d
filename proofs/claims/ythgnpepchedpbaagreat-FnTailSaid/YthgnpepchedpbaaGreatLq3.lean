/- How long a room sounds, as the rule and the program tell it. -/
import Derived.Test.YthgnpepchedpbaaGreatLq2
import Derived.Test.YthgnpepchedpbaaGreatLs3
import Derived.Test.YthgnpepchedpbaaGreatTailOf
import Derived.Test.YthgnpepchedpbaaGreatLk48
import Derived.Test.YthgnpepchedpbaaGreatLk7
import Derived.Test.YthgnpepchedpbaaGreatTab
import Derived.Test.YthgnpepchedpbaaGreatLk32
import Derived.Test.YthgnpepchedpbaaGreatLk18
import Derived.Test.YthgnpepchedpbaaGreatLk1
import Derived.Test.YthgnpepchedpbaaGreatLr4
import Derived.Test.YthgnpepchedpbaaGreatLf8
import Derived.Test.YthgnpepchedpbaaGreatLp7
import Derived.Test.YthgnpepchedpbaaGreatLk9
set_option linter.unusedVariables false
set_option linter.unusedSimpArgs false
namespace Go.Sx
open Go.Proofs
set_option maxRecDepth 100000
set_option maxHeartbeats 1000000

section
variable {h0 h : Heap} {x : GRoom} {most : Int}
theorem tf_zero {x : GRoom} {n : Int} {k : Nat} (h : x.zero = true) : tailFrom x n (k + 1) = (n, 0) := by unfold tailFrom; rw [if_pos h]
theorem tf_step {x : GRoom} {n : Int} {k : Nat} (h : x.zero = false) : tailFrom x n (k + 1) = tailFrom (x.step 0).1 (n + 1) k := by rw [tailFrom, h]; rfl
def tup (r : Int × Int) : Value := .tuple ⟨[.int .i64 r.1, .int .i64 r.2]⟩
theorem tail1 (h1 : x.ok = false) : x.tailOf most = (0, 1) := by unfold GRoom.tailOf; rw [h1]; rfl
theorem tail2 (h1 : x.ok = true) (h2 : inR most 0 20000 = false) : x.tailOf most = (0, 2) := by unfold GRoom.tailOf; rw [h1, h2]; rfl
theorem tail0 (h1 : x.ok = true) (h2 : inR most 0 20000 = true) : x.tailOf most = tailFrom x 0 (most.toNat + 1) := by unfold GRoom.tailOf; rw [h1, h2]; rfl
theorem spec_TailOf_c {cs : Array Value} (R0 : rRoom.rd h cs.toList x) : CALL prg f_spec_TailOf #[.agg cs, .int .i64 most] (fun u h' => u = tup (x.tailOf most) ∧ Ext h h') h := by
  refine spec_TailOf.call ((Mem.start h).alc fun g1 h1 x1 M => ?_)
  have R : RdP rRoom h1 ⟨g1, 0, none⟩ x := M.rdp .here (rRoom.ext M.ext R0)
  refine goM M (l06Ok_c R) fun h3 M => as_b (br (fun hb => ⟨by rw [tail1 (nt hb)]; rfl, M.ext⟩) fun hb => ?_)
  have hok := nf hb
  refine goM M (l00In_c _ _ _ _) fun h4 M => as_b (br (fun hb => ⟨by rw [tail2 hok (nt hb)]; rfl, M.ext⟩) fun hb => ?_)
  have hin := nf hb
  rw [tail0 hok hin]
  have hm : 0 ≤ most ∧ most ≤ 20000 := by unfold inR at hin; simpa using hin
  have R : RdP rRoom h4 ⟨g1, 0, none⟩ x := M.rdp .here (rRoom.ext M.ext R0)
  refine NewR.go M (l06Copy_c R (ok_small hok)) fun h5 c5 B5 M O5 s5 => as_a (M.alc fun g h6 x6 M => M.sta0 .here s5 (rRoom.oone O5) rfl .here fun h7 M => ?_)
  have P : Pt rRoom h h7 ⟨g, 0, none⟩ ⟨g, T_impl_Room, [], []⟩ [(g1, T_impl_Room, cs)] x := Pt.new O5 M
  refine loop (fun y hh => ∃ (m k : Nat) (X : GRoom), y = (most, ⟨g, 0, none⟩, (m : Int)) ∧ most.toNat + 1 = m + k ∧ X.Runs ∧ tailFrom X m k = tailFrom x 0 (most.toNat + 1) ∧ Pt rRoom h hh ⟨g, 0, none⟩ ⟨g, T_impl_Room, [], []⟩ [(g1, T_impl_Room, cs)] X)
    (fun y => (most + 1 - y.2.2).toNat) ⟨0, most.toNat + 1, x, rfl, by omega, room_runs R0 hok, rfl, P⟩ ?_
  rintro y hh ⟨m, k, X, rfl, hk, hr, e, P⟩
  refine brd (fun hc => ?_) fun hc => ?_
  · obtain ⟨k, rfl⟩ : ∃ k', k = k' + 1 := ⟨k - 1, by omega⟩
    refine (l06Silent_c P.rd).mono ?_
    rintro _ h8 ⟨rfl, x8⟩
    refine as_b (br (fun hb => ⟨by rw [← e, tf_zero hb]; rfl, (P.grow x8).ext⟩) fun hb => ?_)
    refine (l06Step_c (P.grow x8) hr fw0).mono ?_
    rintro _ h9 ⟨⟨y, rfl, _⟩, P⟩
    refine as_f ⟨⟨m + 1, k, _, by rw [wrap64_succ (by omega)], by omega, step_runs hr 0, ?_, P⟩, by rw [wrap64_succ (by omega)]; show _ < _; simp; omega⟩
    rw [← e, tf_step hb]; rfl
  · obtain rfl : k = 0 := by omega
    exact ⟨by rw [← e]; rfl, P.ext⟩
/-- Integers in a block. -/
def ivs (rs : List Int) : Array Value := ⟨rs.map (.int .i64)⟩
theorem ivs_get {rs : List Int} {i : Nat} (hi : i < rs.length) : (ivs rs)[i]? = some (.int .i64 rs[i]!) := by
  unfold ivs
  rw [List.getElem?_toArray, List.getElem?_map, List.getElem?_eq_getElem hi, getElem!_pos _ i hi]; rfl
theorem ivs_set {rs : List Int} {i : Nat} {v : Int} : (ivs rs).setIfInBounds i (.int .i64 v) = ivs (rs.set i v) := by
  unfold ivs
  rw [List.setIfInBounds_toArray, List.map_set]
theorem Look.oV {L : List Blk} {g i : Nat} {rs : List Int} {K : Int → Prop} (l : Look L g (ivs rs)) (M : Mem h0 h L) (hi : i < rs.length) (H : K rs[i]!) : Sx.oI .i64 (cell h ((⟨g, 0, none⟩ : Addr).add (i * 1))) K := by
  rw [add_none, Nat.zero_add, Nat.mul_one]
  exact o_i (by rw [M.cell l, ivs_get hi]) H
theorem Pt.blkV {α : Type} {r : Rep α} {d : α} {q : Addr} {F : Fr} {L L' : List Blk} {g T i : Nat} {v : Int} {rs : List Int} {K : Heap → Prop} (P : Pt r h0 h q F L d) (l : Look L g (ivs rs)) (k : Pick L g T (ivs rs) L') (hi : i < rs.length)
    (H : ∀ h', Pt r h0 h' q F ((g, T, ivs (rs.set i v)) :: L') d → K h') : ST1 h ((⟨g, 0, none⟩ : Addr).add (i * 1)) (.int .i64 v) K := by
  rw [add_none, Nat.zero_add]
  refine P.blk1 l (by unfold ivs; simp; omega) k fun h' P' => H h' ?_
  rw [Nat.mul_one, ivs_set] at P'
  exact P'
end
end Go.Sx
/- An event happens: the rule's and the program's. -/
set_option linter.unusedVariables false
set_option linter.unusedSimpArgs false
namespace Go.Sx
open Go.Proofs
set_option maxRecDepth 100000
set_option maxHeartbeats 2000000

def eldest (vs : List GVoice) : Nat → Nat
  | 0 => 0
  | i + 1 => if vs[i]!.Born < vs[eldest vs i]!.Born then i else eldest vs i
def isFreeV (v : GVoice) : Bool := v.Note == -1
def placeOf (vs : List GVoice) : Nat := if firstAt isFreeV vs = -1 then eldest vs vs.length else (firstAt isFreeV vs).toNat
def GScore.kind (s : GScore) (v : GVoice) : Int := s.Instruments[v.Instrument.toNat]!.Kind
def goneV (s : GScore) (v : GVoice) : GVoice := if s.kind v = 1 then { v with Gone := true, Drive := 0, String := { v.String with Loss := fmul .f32 v.String.Loss half } } else { v with Gone := true, Drive := 0 }
def stopV (s : GScore) (n : Int) (v : GVoice) : GVoice := if v.Note = n then goneV s v else v
def GPlayer.happen (p : GPlayer) (e : GEvent) : GPlayer :=
  if e.Kind = 2 then match voiceOf p.Score e with | some v => { p with Voices := p.Voices.set (placeOf p.Voices) v } | none => { p with Skipped := p.Skipped + 1 }
  else { p with Voices := p.Voices.map (stopV p.Score e.Note) }
/-- The event of a player that lies at a place. -/
def EvAt (h : Heap) (q e1 : Addr) (n : Nat) : Prop := ∃ a5 l5 c5, cell h (q.add 5) = some (.slice (some a5) l5 c5) ∧ e1 = a5.add (n * 6) ∧ n < l5
section
variable {h0 h : Heap} {q e1 : Addr} {F : Fr} {L : List Blk} {p : GPlayer} {n : Nat}
theorem EvAt.ext {h' : Heap} (E : EvAt h q e1 n) (x : Ext h h') : EvAt h' q e1 n := by
  obtain ⟨a5, l5, c5, e, r⟩ := E
  exact ⟨a5, l5, c5, x.cell e, r⟩
end
end Go.Sx
/- Finite numbers: what reads as a number is finite; one less a part of one. -/
set_option linter.unusedVariables false
set_option linter.unusedSimpArgs false
namespace Go.Sx
open Ieee

theorem word_fin (t : Bool) : feq .f32 (cn .f32 (FloatKind.f32.format.word t 0)) 0 = true := by cases t <;> decide +kernel
theorem sub_self_word {a m : Nat} {s : Bool} {e : Int} (h : FloatKind.f32.format.read a = .number s m e) : ∃ t, FloatKind.f32.format.sub a a = some (FloatKind.f32.format.word t 0) := by
  have hsum : ∃ t, (Datum.number s m e).sum (Datum.number s m e).opposite = some (.number t (signed s m (e - min e e).toNat + signed (!s) m (e - min e e).toNat).natAbs (min e e)) := ⟨_, rfl⟩
  obtain ⟨t, hsum⟩ := hsum
  have z : ∀ k, signed s m k + signed (!s) m k = 0 := fun k => by
    cases s
    · rw [signed_f]; show _ + signed true m k = 0; rw [signed_t]; omega
    · rw [signed_t]; show _ + signed false m k = 0; rw [signed_f]; omega
  rw [z] at hsum
  refine ⟨t, ?_⟩
  unfold Format.sub
  rw [h, hsum]
  exact congrArg some (nearest_zero _ _ _)
theorem fin_read {a m : Nat} {s : Bool} {e : Int} (h : FloatKind.f32.format.read a = .number s m e) : fin a = true := by
  obtain ⟨t, ht⟩ := sub_self_word h
  unfold fin fsub
  rw [ht, Option.getD_some]
  exact word_fin t
theorem inside_fin {a c d n k : Nat} {j i : Int} (hc : FloatKind.f32.format.read c = .number false n j) (hd : FloatKind.f32.format.read d = .number false k i) (h : inside a c d = true) : fin a = true := by
  obtain ⟨B, hB⟩ : ∃ B : Nat, 1100 ≤ B := ⟨1100, Nat.le_refl _⟩
  obtain ⟨s, m, e, hr, _⟩ := inside_read hB hc hd h
  exact fin_read hr
theorem rd_c0 : FloatKind.f32.format.read 0 = .number false 0 (-149) := by decide +kernel
theorem rd_c1 : FloatKind.f32.format.read 1065353216 = .number false (2 ^ 23) (-23) := by decide +kernel
theorem place_inside {k : Nat} (h : place k = true) : inside k 0 1065353216 = true := by
  unfold place at h
  unfold inside fle
  rw [Bool.and_eq_true] at *
  exact ⟨h.1, by rw [show (FloatKind.f32.format.order k 1065353216 == some .lt) = true from h.2]; rfl⟩
theorem one_sub {k : Nat} (h : place k = true) : fin (fsub .f32 1065353216 k) = true := by
  obtain ⟨B, hB⟩ : ∃ B : Nat, 1100 ≤ B := ⟨1100, Nat.le_refl _⟩
  obtain ⟨s', m', e', hr', hs', h1', h2'⟩ := inside_read hB rd_c0 rd_c1 (place_inside h)
  have v1 : sv B (2 ^ 23) (-23) = 2 ^ B := by unfold sv; rw [← Nat.pow_add]; congr 1; omega
  have hb2 := read_single k hr'
  have hm : ∃ m, m = (2 : Nat) ^ 23 := ⟨_, rfl⟩
  obtain ⟨m, hm⟩ := hm
  have hr := rd_c1
  rw [← hm] at hr v1 h2'
  have he : ∃ e : Int, e = -23 := ⟨_, rfl⟩
  obtain ⟨e, he⟩ := he
  rw [← he] at hr v1 h2'
  have hbase : ∃ b : Int, b = min e e' := ⟨_, rfl⟩
  obtain ⟨b, hbase⟩ := hbase
  have w1 : sv B m e = m * 2 ^ (e - b).toNat * 2 ^ (b + (B : Int)).toNat := by unfold sv; rw [Nat.mul_assoc, ← Nat.pow_add]; congr 2; omega
  have w2 : sv B m' e' = m' * 2 ^ (e' - b).toNat * 2 ^ (b + (B : Int)).toNat := by unfold sv; rw [Nat.mul_assoc, ← Nat.pow_add]; congr 2; omega
  have hneg : signed (!s') m' (e' - b).toNat = -((m' * 2 ^ (e' - b).toNat : Nat) : Int) := by
    cases s'
    · exact signed_t _ _
    · rw [hs' rfl, Nat.zero_mul]
      show signed false 0 _ = _
      rw [signed_f, Nat.zero_mul]; rfl
  have hT : ∃ T : Nat, m * 2 ^ (e - b).toNat = T + m' * 2 ^ (e' - b).toNat ∧ T * 2 ^ (b + (B : Int)).toNat ≤ 2 ^ B := by
    rw [w1, w2] at h2'
    rw [w1] at v1
    have hle := Nat.le_of_mul_le_mul_right h2' (Nat.two_pow_pos _)
    refine ⟨m * 2 ^ (e - b).toNat - m' * 2 ^ (e' - b).toNat, by omega, ?_⟩
    rw [← v1]
    exact Nat.mul_le_mul_right _ (Nat.sub_le _ _)
  obtain ⟨T, hT1, hT3⟩ := hT
  have hsum : ∃ t, (Datum.number false m e).sum (Datum.number s' m' e').opposite = some (.number t T b) := by
    have : ∃ t, (Datum.number false m e).sum (Datum.number s' m' e').opposite = some (.number t (signed false m (e - min e e').toNat + signed (!s') m' (e' - min e e').toNat).natAbs (min e e')) := ⟨_, rfl⟩
    obtain ⟨t, this⟩ := this
    refine ⟨t, ?_⟩
    rw [this, ← hbase, hneg, signed_f, hT1]
    have : ((T + m' * 2 ^ (e' - b).toNat : Nat) : Int) + -((m' * 2 ^ (e' - b).toNat : Nat) : Int) = (T : Int) := by push_cast; omega
    rw [this, Int.natAbs_natCast]
  obtain ⟨t, hsum⟩ := hsum
  have hsub : FloatKind.f32.format.sub 1065353216 k = some (FloatKind.f32.format.nearest t T b) := by
    unfold Format.sub
    rw [hr, hr', hsum]; rfl
  have hf : fsub .f32 1065353216 k = cn .f32 (FloatKind.f32.format.nearest t T b) := by
    unfold fsub
    rw [hsub, Option.getD_some]
  have fromR : ∀ {w n : Nat} {q : Int}, FloatKind.f32.format.read w = .number t n q → fin (cn .f32 w) = true := fun {w n q} hw => by
    rw [number_cn hw]; exact fin_read hw
  rw [hf]
  by_cases hT0 : T = 0
  · subst hT0
    rw [nearest_zero]
    exact fromR (zero32 t)
  obtain ⟨e1, e2, e3, e4⟩ := f32_consts
  have hle : VLE T b 0 := sv_vle hB hT0 (by omega) (by omega) (by rw [show ((0 : Int) + (B : Int)).toNat = B by omega]; exact hT3)
  obtain ⟨m2, p2, hr2, _⟩ := nearest_read FloatKind.f32.format t hT0 hle (by rw [e1, e2]; omega) (by rw [e1, e2, e3, e4]; decide)
  exact fromR hr2
end Go.Sx
/- New players. -/
set_option linter.unusedVariables false
set_option linter.unusedSimpArgs false
namespace Go.Sx
open Go.Proofs
set_option maxRecDepth 100000
set_option maxHeartbeats 1000000

def freeV : GVoice := { z_Voice with Note := -1 }
end Go.Sx
/- Players that run: what a step asks for, and that it leaves it so. -/
set_option linter.unusedVariables false
set_option linter.unusedSimpArgs false
namespace Go.Sx
open Go.Proofs
set_option maxRecDepth 100000
set_option maxHeartbeats 1000000

def newV (s : GScore) (v : GVoice) : GVoice := if v.Note = -1 then v else if (v.Gone && (v.sound (s.kind v)).1.quiet (s.kind v)) = true then freeV else (v.sound (s.kind v)).1
def addV (s : GScore) (a : Nat) (v : GVoice) : Nat := if v.Note = -1 then a else fadd .f32 a (v.sound (s.kind v)).2
def GPlayer.sounded (p : GPlayer) : GPlayer × Nat := ({ p with Voices := p.Voices.map (newV p.Score), Now := p.Now + 1 }, clamp (p.Voices.foldl (addV p.Score) 0) one32)
def GPlayer.now1 (p : GPlayer) : Bool := decide (p.Next < p.Score.Events.length) && (p.Score.Events[p.Next.toNat]!.At == p.Now)
def GPlayer.next (p : GPlayer) : GPlayer := { p.happen p.Score.Events[p.Next.toNat]! with Next := p.Next + 1 }
def GPlayer.run : Nat → GPlayer → GPlayer
  | 0, p => p
  | k + 1, p => if p.now1 = true then GPlayer.run k p.next else p
def GPlayer.step (p : GPlayer) : GPlayer × Nat := (GPlayer.run (p.Score.Events.length - p.Next.toNat) p).sounded
/-- A voice of a note that has started, its body in order. -/
def VoiceRuns (s : GScore) (next : Int) (v : GVoice) : Prop := ∃ j : Nat, j < s.Events.length ∧ (j : Int) < next ∧ isSt s.Events[j]! = true ∧ s.Events[j]!.Note = v.Note ∧ s.Events[j]!.Instrument = v.Instrument ∧ bodyRuns (s.kind v) v
structure GPlayer.Runs (p : GPlayer) : Prop where
  s : p.Score.ok = true
  n1 : 1 ≤ p.Voices.length
  n6 : p.Voices.length ≤ 6
  nx : 0 ≤ p.Next ∧ p.Next ≤ p.Score.Events.length
  sk : 0 ≤ p.Skipped ∧ p.Skipped ≤ 64 + p.Next
  v : ∀ v ∈ p.Voices, v.Note = -1 ∨ VoiceRuns p.Score p.Next v
  d : ∀ i j, i < j → j < p.Voices.length → p.Voices[i]!.Note = p.Voices[j]!.Note → p.Voices[i]!.Note = -1
theorem VoiceRuns.note {s : GScore} {n : Int} {v : GVoice} (h : s.ok = true) (V : VoiceRuns s n v) : 0 ≤ v.Note := by
  obtain ⟨j, h1, h2, h3, h4, _⟩ := V
  rw [← h4]; exact ((score_ev h).note j h1).1
theorem zeros_fin (n : Nat) : allFin (List.replicate n 0) = true := by
  unfold allFin
  rw [List.all_eq_true]
  intro x hx
  rw [List.eq_of_mem_replicate hx]
  exact fin_read rd_c0
theorem ring_okf {n : Int} (h1 : 1 ≤ n) (h2 : n ≤ 1024) : (⟨List.replicate n.toNat 0, 0⟩ : GRing).okf = true := by
  unfold GRing.okf
  rw [Bool.and_eq_true]
  refine ⟨?_, zeros_fin _⟩
  unfold GRing.ok GRing.len inR
  rw [show (((List.replicate n.toNat 0).length : Nat) : Int) = n by rw [List.length_replicate]; omega]
  simp only [Bool.and_eq_true, decide_eq_true_eq]
  exact ⟨⟨by omega, by omega⟩, by omega, by omega⟩
theorem onePole_ok {k : Nat} (h : place k = true) : ((onePole k).ok && (onePole k).Kind == 1) = true := by
  have f1 := one_sub h
  have f2 := inside_fin rd_c0 rd_c1 (place_inside h)
  have f0 := fin_read rd_c0
  unfold onePole GFilter.ok used usesC usesS inR
  simp only [List.length_cons, List.length_nil]
  simp [List.range_succ, f1, f2, f0]
end Go.Sx
/- Rooms muted, as the program does it. -/
set_option linter.unusedVariables false
set_option linter.unusedSimpArgs false
namespace Go.Sx
open Go.Proofs
set_option maxRecDepth 100000

section
variable {h : Heap}
theorem foc_damp (i : Nat) (hi : i < 4) : Foc rRoom rFilter (17 + i * 6) (fun a => a.Damps[i]!) (fun a b => { a with Damps := a.Damps.set i b }) := (foc_Room_Damps.trans (Foc.arr rFilter i hi)).at rfl
end
end Go.Sx
