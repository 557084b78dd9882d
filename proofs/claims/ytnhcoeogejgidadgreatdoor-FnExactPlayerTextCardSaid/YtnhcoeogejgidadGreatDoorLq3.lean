/- How long a room sounds, as the rule and the program tell it. -/
import Derived.Test.YtnhcoeogejgidadGreatDoorLva
import Derived.Test.YtnhcoeogejgidadGreatDoorTab
import Derived.Test.YtnhcoeogejgidadGreatDoorLk50
import Derived.Test.YtnhcoeogejgidadGreatDoorTabE
import Derived.Test.YtnhcoeogejgidadGreatDoorLg
import Derived.Test.YtnhcoeogejgidadGreatDoorLp5
import Derived.Test.YtnhcoeogejgidadGreatDoorLk1
import Derived.Test.YtnhcoeogejgidadGreatDoorLk29
import Derived.Test.YtnhcoeogejgidadGreatDoorLk45
import Derived.Test.YtnhcoeogejgidadGreatDoorLm7
import Derived.Test.YtnhcoeogejgidadGreatDoorLk33
import Derived.Test.YtnhcoeogejgidadGreatDoorLvr
set_option linter.unusedVariables false
set_option linter.unusedSimpArgs false
namespace Go.Sx
open Go.Proofs
set_option maxRecDepth 100000
set_option maxHeartbeats 1000000

section
variable {h0 h : Heap} {x : GRoom} {most : Int}
def tup (r : Int × Int) : Value := .tuple ⟨[.int .i64 r.1, .int .i64 r.2]⟩
/-- Integers in a block. -/
def ivs (rs : List Int) : Array Value := ⟨rs.map (.int .i64)⟩
theorem ivs_get {rs : List Int} {i : Nat} (hi : i < rs.length) : (ivs rs)[i]? = some (.int .i64 rs[i]!) := by
  unfold ivs
  rw [List.getElem?_toArray, List.getElem?_map, List.getElem?_eq_getElem hi, getElem!_pos _ i hi]; rfl
theorem Look.oV {L : List Blk} {g i : Nat} {rs : List Int} {K : Int → Prop} (l : Look L g (ivs rs)) (M : Mem h0 h L) (hi : i < rs.length) (H : K rs[i]!) : Sx.oI .i64 (cell h ((⟨g, 0, none⟩ : Addr).add (i * 1))) K := by
  rw [add_none, Nat.zero_add, Nat.mul_one]
  exact o_i (by rw [M.cell l, ivs_get hi]) H
end
end Go.Sx
/- Rooms made by the rule: valid for drawn numbers. -/
set_option linter.unusedVariables false
set_option linter.unusedSimpArgs false
namespace Go.Sx
open Go.Proofs
set_option maxRecDepth 100000
set_option maxHeartbeats 1000000

section
variable {h0 h : Heap} {q : Addr} {F : Fr} {L : List Blk} {y k : Nat}
/-- A room of which the first n loops are made. -/
structure Made (x : GRoom) (n : Nat) : Prop where
  e : x.Early.okf = true
  t : x.Taps = []
  c2 : x.Combs.length = 2
  c : x.Combs.all GComb.ok = true
  l4 : x.Loops.length = 4
  d4 : x.Damps.length = 4
  g4 : x.Gains.length = 4
  l : ∀ i, i < n → x.Loops[i]!.okf = true
  d : ∀ i, i < n → (x.Damps[i]!.ok && x.Damps[i]!.Kind == 1) = true
  g : ∀ i, i < n → fin x.Gains[i]! = true
  dry : fin x.Dry = true
  wet : fin x.Wet = true
theorem all_idx {α : Type} [Inhabited α] {l : List α} {p : α → Bool} (H : ∀ i, i < l.length → p l[i]! = true) : l.all p = true := by
  rw [List.all_eq_true]
  intro a ha
  obtain ⟨i, hi, rfl⟩ := List.mem_iff_getElem.1 ha
  have := H i hi
  rwa [getElem!_pos l i hi] at this
theorem Made.ok {x : GRoom} (M : Made x 4) : x.ok = true := by
  rw [room_ok, M.e, M.c, M.t, M.dry, M.wet]
  rw [all_idx (l := x.Loops) (p := GRing.okf) fun i hi => M.l i (by rw [M.l4] at hi; exact hi)]
  rw [all_idx (l := x.Damps) (p := fun f => f.ok && f.Kind == 1) fun i hi => M.d i (by rw [M.d4] at hi; exact hi)]
  unfold allFin
  rw [all_idx (l := x.Gains) (p := fin) fun i hi => M.g i (by rw [M.g4] at hi; exact hi)]
  rfl
theorem setGet {α : Type} [Inhabited α] {l : List α} {i j : Nat} {a : α} (hj : j < l.length) : (l.set i a)[j]! = if i = j then a else l[j]! := by
  rw [getElem!_pos _ j (by rw [List.length_set]; exact hj), List.getElem_set]
  split
  · rfl
  · rw [getElem!_pos _ j hj]
theorem Made.step {x : GRoom} {n : Nat} {r : GRing} {f : GFilter} {g : Nat} (M : Made x n) (hn : n < 4) (hr : r.okf = true) (hf : (f.ok && f.Kind == 1) = true) (hg : fin g = true) : Made { x with Loops := x.Loops.set n r, Damps := x.Damps.set n f, Gains := x.Gains.set n g } (n + 1) := by
  obtain ⟨e, t, c2, c, l4, d4, g4, l, d, gg, dry, wet⟩ := M
  refine ⟨e, t, c2, c, by rw [List.length_set]; exact l4, by rw [List.length_set]; exact d4, by rw [List.length_set]; exact g4, fun i hi => ?_, fun i hi => ?_, fun i hi => ?_, dry, wet⟩
  · show (x.Loops.set n r)[i]!.okf = true
    rw [setGet (by omega)]
    split
    · exact hr
    · exact l i (by omega)
  · show ((x.Damps.set n f)[i]!.ok && (x.Damps.set n f)[i]!.Kind == 1) = true
    rw [setGet (by omega)]
    split
    · exact hf
    · exact d i (by omega)
  · show fin (x.Gains.set n g)[i]! = true
    rw [setGet (by omega)]
    split
    · exact hg
    · exact gg i (by omega)
end
end Go.Sx
/- Drawn bows are valid. -/
set_option linter.unusedVariables false
set_option linter.unusedSimpArgs false
namespace Go.Sx
open Go.Proofs Ieee
set_option maxRecDepth 100000
set_option maxHeartbeats 2000000

/-- A valid new thing. -/
def NewOk {α : Type} (r : Rep α) (ok : α → Bool) (h h' : Heap) (u : Value) : Prop := ∃ cs B x, u = .tuple ⟨[.agg cs, .int .i64 (0 : Int)]⟩ ∧ r.ow B cs.toList x ∧ ok x = true ∧ Mem h h' B
theorem NewOk.go {α : Type} {r : Rep α} {ok : α → Bool} {P : Program} {f : FuncId} {args : Array Value} {hh : Heap} {Q : Value → Heap → Prop} (c : CALL P f args (fun u h' => NewOk r ok hh h' u) hh) (H : ∀ h' cs B x, r.ow B cs.toList x → ok x = true → Mem hh h' B → Q (.tuple ⟨[.agg cs, .int .i64 (0 : Int)]⟩) h') : CALL P f args Q hh :=
  c.mono fun u h' ⟨cs, B, x, e, O, hx, N⟩ => by subst e; exact H h' cs B x O hx N
end Go.Sx
/- Players that run, kept so by what happens and by a step. -/
set_option linter.unusedVariables false
set_option linter.unusedSimpArgs false
namespace Go.Sx
open Go.Proofs
set_option maxRecDepth 100000
set_option maxHeartbeats 1000000

theorem now1_iff {p : GPlayer} (h : p.now1 = true) : p.Next < p.Score.Events.length ∧ p.Score.Events[p.Next.toNat]!.At = p.Now := by
  unfold GPlayer.now1 at h
  rw [Bool.and_eq_true, decide_eq_true_iff, beq_iff_eq] at h
  exact h
/-- No voice has the note of a start that is still to come. -/
theorem none_has {p : GPlayer} (R : p.Runs) (h : p.Next < p.Score.Events.length) (hs : isSt p.Score.Events[p.Next.toNat]! = true) {v : GVoice} (hv : v ∈ p.Voices) : ¬ v.Note = p.Score.Events[p.Next.toNat]!.Note := fun e => by
  have nx := R.nx
  have G := score_ev R.s
  have hn := (G.note p.Next.toNat (by omega)).1
  rcases R.v v hv with h1 | ⟨j, h1, h2, h3, h4, _⟩
  · omega
  · have := G.st1 j p.Next.toNat h1 (by omega) h3 hs (by rw [h4, e])
    omega
theorem gone_same (s : GScore) (v : GVoice) : (goneV s v).Note = v.Note ∧ (goneV s v).Instrument = v.Instrument ∧ s.kind (goneV s v) = s.kind v := by
  unfold goneV
  split <;> exact ⟨rfl, rfl, rfl⟩
theorem gone_runs {s : GScore} {v : GVoice} {k : Int} (h : bodyRuns k v) : bodyRuns k (goneV s v) := by
  unfold goneV
  split <;> exact h
theorem VoiceRuns.mono {s : GScore} {n m : Int} {v : GVoice} (h : VoiceRuns s n v) (hm : n ≤ m) : VoiceRuns s m v := by
  obtain ⟨j, h1, h2, r⟩ := h
  exact ⟨j, h1, by omega, r⟩
theorem next_runs {p : GPlayer} (R : p.Runs) (h : p.Next < p.Score.Events.length) : p.next.Runs := by
  have nx := R.nx
  have sk := R.sk
  have hl : p.Next.toNat < p.Score.Events.length := by omega
  have G := score_ev R.s
  obtain ⟨e, he⟩ : ∃ e, e = p.Score.Events[p.Next.toNat]! := ⟨_, rfl⟩
  unfold GPlayer.next
  rw [← he]
  by_cases hk : e.Kind = 2
  · have hs : isSt e = true := by unfold isSt; rw [hk]; rfl
    have no : ∀ {v : GVoice}, v ∈ p.Voices → ¬ v.Note = e.Note := fun hv => by rw [he]; exact none_has R h (by rw [← he]; exact hs) hv
    have hn : 0 ≤ e.Note := by rw [he]; exact (G.note _ hl).1
    rw [happen_start hk]
    cases hv : voiceOf p.Score e with
    | none => exact ⟨R.s, R.n1, R.n6, ⟨by show 0 ≤ p.Next + 1; omega, by show p.Next + 1 ≤ (p.Score.Events.length : Int); omega⟩, ⟨by show 0 ≤ p.Skipped + 1; omega, by show p.Skipped + 1 ≤ 64 + (p.Next + 1); omega⟩, fun v hv => (R.v v hv).imp id fun V => V.mono (by show p.Next ≤ p.Next + 1; omega), R.d⟩
    | some w =>
      obtain ⟨w1, w2, w3⟩ := voice_new hv
      have hp := placeOf_lt R.n1
      refine ⟨R.s, by show 1 ≤ (p.Voices.set _ w).length; rw [List.length_set]; exact R.n1, by show (p.Voices.set _ w).length ≤ 6; rw [List.length_set]; exact R.n6, ⟨by show 0 ≤ p.Next + 1; omega, by show p.Next + 1 ≤ (p.Score.Events.length : Int); omega⟩, ⟨sk.1, by show p.Skipped ≤ 64 + (p.Next + 1); omega⟩, fun v hv => ?_, fun i j hij hj hnn => ?_⟩
      · rcases List.mem_or_eq_of_mem_set hv with hv | rfl
        · exact (R.v v hv).imp id fun V => V.mono (by show p.Next ≤ p.Next + 1; omega)
        · exact .inr ⟨p.Next.toNat, hl, by show ((p.Next.toNat : Nat) : Int) < p.Next + 1; omega, by show isSt p.Score.Events[p.Next.toNat]! = true; rw [← he]; exact hs, by show p.Score.Events[p.Next.toNat]!.Note = _; rw [← he, w1], by show p.Score.Events[p.Next.toNat]!.Instrument = _; rw [← he, w2], w3⟩
      · have hj : j < (p.Voices.set (placeOf p.Voices) w).length := hj
        rw [List.length_set] at hj
        have hnn : (p.Voices.set (placeOf p.Voices) w)[i]!.Note = (p.Voices.set (placeOf p.Voices) w)[j]!.Note := hnn
        show (p.Voices.set (placeOf p.Voices) w)[i]!.Note = -1
        rw [get_set (by omega), get_set (by omega)] at hnn
        rw [get_set (by omega)]
        by_cases e1 : placeOf p.Voices = i
        · rw [if_pos e1] at hnn ⊢
          rw [if_neg (by omega)] at hnn
          exact absurd (by rw [← hnn, w1]) (no (mem_get hj))
        · rw [if_neg e1] at hnn ⊢
          by_cases e2 : placeOf p.Voices = j
          · rw [if_pos e2] at hnn
            exact absurd (by rw [hnn, w1]) (no (mem_get (show i < p.Voices.length by omega)))
          · rw [if_neg e2] at hnn
            exact R.d i j hij hj hnn
  · rw [happen_stop hk]
    have hnote : ∀ v, (stopV p.Score e.Note v).Note = v.Note := fun v => by unfold stopV; split <;> first | exact (gone_same _ v).1 | rfl
    refine ⟨R.s, by show 1 ≤ (p.Voices.map _).length; rw [List.length_map]; exact R.n1, by show (p.Voices.map _).length ≤ 6; rw [List.length_map]; exact R.n6, ⟨by show 0 ≤ p.Next + 1; omega, by show p.Next + 1 ≤ (p.Score.Events.length : Int); omega⟩, ⟨sk.1, by show p.Skipped ≤ 64 + (p.Next + 1); omega⟩, fun v hv => ?_, fun i j hij hj hnn => ?_⟩
    · obtain ⟨u, hu, rfl⟩ := List.mem_map.1 hv
      rw [hnote]
      refine (R.v u hu).imp id fun V => ?_
      have V := V.mono (show p.Next ≤ p.Next + 1 by omega)
      unfold stopV
      split
      · obtain ⟨j, h1, h2, h3, h4, h5, h6⟩ := V
        obtain ⟨g1, g2, g3⟩ := gone_same p.Score u
        exact ⟨j, h1, h2, h3, by rw [g1]; exact h4, by rw [g2]; exact h5, by show bodyRuns (p.Score.kind (goneV p.Score u)) _; rw [g3]; exact gone_runs h6⟩
      · exact V
    · have hj : j < (p.Voices.map (stopV p.Score e.Note)).length := hj
      rw [List.length_map] at hj
      have hnn : (p.Voices.map (stopV p.Score e.Note))[i]!.Note = (p.Voices.map (stopV p.Score e.Note))[j]!.Note := hnn
      show (p.Voices.map (stopV p.Score e.Note))[i]!.Note = -1
      rw [map_get (by omega), map_get (by omega), hnote, hnote] at hnn
      rw [map_get (by omega), hnote]
      exact R.d i j hij hj hnn
theorem next_score (p : GPlayer) : p.next.Score = p.Score ∧ p.next.Now = p.Now ∧ p.next.Next = p.Next + 1 := by
  unfold GPlayer.next GPlayer.happen
  split
  · cases voiceOf p.Score _ <;> exact ⟨rfl, rfl, rfl⟩
  · exact ⟨rfl, rfl, rfl⟩
/-- The loop over events, from a player on. -/
theorem run_step {p : GPlayer} (R : p.Runs) (h : p.now1 = true) : GPlayer.run (p.Score.Events.length - p.Next.toNat) p = GPlayer.run (p.next.Score.Events.length - p.next.Next.toNat) p.next := by
  have nx := R.nx
  obtain ⟨h1, h2⟩ := now1_iff h
  obtain ⟨g1, g2, g3⟩ := next_score p
  rw [g1, g3, show p.Score.Events.length - p.Next.toNat = (p.Score.Events.length - (p.Next + 1).toNat) + 1 by omega]
  conv => lhs; unfold GPlayer.run
  rw [if_pos h]
theorem run_done {p : GPlayer} (h : p.now1 = false) : ∀ k, GPlayer.run k p = p
  | 0 => rfl
  | k + 1 => by unfold GPlayer.run; rw [h, if_neg (by decide)]
end Go.Sx
/- A player's step: the rule's. -/
set_option linter.unusedVariables false
set_option linter.unusedSimpArgs false
namespace Go.Sx
open Go.Proofs
set_option maxRecDepth 100000
set_option maxHeartbeats 2000000

section
variable {h0 h : Heap} {q : Addr} {F : Fr} {L : List Blk} {p : GPlayer}
/-- A player within the loop over events. -/
structure RunsTo (p0 p : GPlayer) : Prop where
  r : p.Runs
  n : p.Now = p0.Now
  e : GPlayer.run (p.Score.Events.length - p.Next.toNat) p = GPlayer.run (p0.Score.Events.length - p0.Next.toNat) p0
  s : p.Score = p0.Score
theorem RunsTo.next {p0 p : GPlayer} (R : RunsTo p0 p) (h : p.now1 = true) : RunsTo p0 p.next := by
  obtain ⟨g1, g2, g3⟩ := next_score p
  exact ⟨next_runs R.r (now1_iff h).1, by rw [g2, R.n], by rw [← run_step R.r h, R.e], by rw [g1, R.s]⟩
theorem RunsTo.done {p0 p : GPlayer} (R : RunsTo p0 p) (h : p.now1 = false) : p.sounded = p0.step := by
  unfold GPlayer.step
  rw [← R.e, run_done h]
end
end Go.Sx
/- Bows muted, played, pulled and moved on. -/
set_option linter.unusedVariables false
set_option linter.unusedSimpArgs false
namespace Go.Sx
open Go.Proofs
set_option maxRecDepth 100000
set_option maxHeartbeats 1000000

/-- A thing, a slice of floats and a code, told by a call. -/
def TriG {α : Type} (r : Rep α) (h h' : Heap) (u : Value) (x : α) (ys : List Nat) (code : Int) : Prop := ∃ cs B b l c C, u = .tuple ⟨[.agg cs, .slice b l c, .int .i64 code]⟩ ∧ r.ow B cs.toList x ∧ SlO T_float32 (rF .f32) C b l c ys ∧ Mem h h' (B ++ C)
theorem TriG.go {α : Type} {r : Rep α} {P : Program} {f : FuncId} {args : Array Value} {x : α} {ys : List Nat} {code : Int} {hb h : Heap} {L : List Blk} {K : Value → Heap → Prop} (M : Mem hb h L) (k : CALL P f args (fun u h' => TriG r h h' u x ys code) h)
    (H : ∀ h' cs B b l c C, Mem hb h' ((B ++ C) ++ L) → r.ow B cs.toList x → SlO T_float32 (rF .f32) C b l c ys → K (.tuple ⟨[.agg cs, .slice b l c, .int .i64 code]⟩) h') : CALL P f args K h :=
  k.mono fun u h' ⟨cs, B, b, l, c, C, e, O, S, N⟩ => by subst e; exact H h' cs B b l c C (M.join N) O S
section
variable {h : Heap} {q : Addr} {x : GBow} {xs : List Nat} {b : Option Addr} {l c : Nat} {cs : Array Value}
/-- A thing, a float and a code, told by a call. -/
def MidG {α : Type} (r : Rep α) (h h' : Heap) (u : Value) (x : α) (y : Nat) (code : Int) : Prop := ∃ cs B w, u = .tuple ⟨[.agg cs, .float .f32 w, .int .i64 code]⟩ ∧ r.ow B cs.toList x ∧ FW .f32 w y ∧ Mem h h' B
theorem MidG.go {α : Type} {r : Rep α} {P : Program} {f : FuncId} {args : Array Value} {x : α} {y : Nat} {code : Int} {hb h : Heap} {L : List Blk} {K : Value → Heap → Prop} (M : Mem hb h L) (k : CALL P f args (fun u h' => MidG r h h' u x y code) h)
    (H : ∀ h' cs B w, Mem hb h' (B ++ L) → r.ow B cs.toList x → FW .f32 w y → K (.tuple ⟨[.agg cs, .float .f32 w, .int .i64 code]⟩) h') : CALL P f args K h :=
  k.mono fun u h' ⟨cs, B, w, e, O, S, N⟩ => by subst e; exact H h' cs B w (M.join N) O S
end
end Go.Sx
/- What is read of floats, rings, filters: words of 32 bits, each NaN the one NaN. -/
set_option linter.unusedVariables false
set_option linter.unusedSimpArgs false
namespace Go.Sx
open Go.Proofs
set_option maxRecDepth 100000
set_option maxHeartbeats 1000000

/-- Samples as they are told and read again. -/
def A32 (xs : List Nat) : Prop := ∀ a ∈ xs, FW .f32 a a
theorem FW.both {k : FloatKind} {x a : Nat} (h : FW k x a) : FW k a a := ⟨h.self, h.lt⟩
theorem A32.b {xs : List Nat} (h : A32 xs) : B32 xs := fun a ha => (h a ha).lt
theorem A32.one {a : Nat} (h : FW .f32 a a) : A32 [a] := fun b hb => by rw [List.mem_singleton] at hb; rw [hb]; exact h
theorem A32.two {a b : Nat} (h : FW .f32 a a) (k : FW .f32 b b) : A32 [a, b] := fun c hc => by
  simp only [List.mem_cons, List.not_mem_nil, or_false] at hc
  rcases hc with rfl | rfl
  · exact h
  · exact k
theorem rds_a {h : Heap} : ∀ {xs : List Nat} {vs : List Value}, rds (rF .f32) h vs xs → A32 xs
  | [], _, _ => fun a ha => nomatch ha
  | x :: xs, vs, e => by
    obtain ⟨v1, v2, rfl, ⟨y, _, hy⟩, h2⟩ := e
    intro a ha
    rcases List.mem_cons.1 ha with rfl | ha
    · exact hy.both
    · exact rds_a h2 a ha
theorem SlR.a {h : Heap} {b : Option Addr} {l c : Nat} {xs : List Nat} (S : SlR (rF .f32) h b l c xs) : A32 xs := by
  obtain ⟨_, _, _, ws, _, h5⟩ := S
  exact rds_a h5
section
variable {h : Heap} {q : Addr}
theorem f32_a {a : Nat} (R : RdP (rF .f32) h q a) : FW .f32 a a := by
  obtain ⟨vs, _, y, _, hy⟩ := R
  exact hy.both
theorem ring_a {r : GRing} (R : RdP rRing h q r) : A32 r.Samples := by
  obtain ⟨vs, _, v1, v2, _, ⟨b, l, c, _, S⟩, _⟩ := R
  exact S.a
theorem arr_a {n : Nat} {xs : List Nat} (R : RdP (rArr n (rF .f32)) h q xs) : A32 xs ∧ xs.length = n := by
  obtain ⟨vs, _, h1, h2⟩ := R
  exact ⟨rds_a h2, h1⟩
/-- Filters as they are told and read again. -/
structure FiltA (f : GFilter) : Prop where
  k0 : 1 ≤ f.Kind
  k1 : f.Kind ≤ 5
  c3 : f.C.length = 3
  s2 : f.S.length = 2
  ca : A32 f.C
  sa : A32 f.S
theorem FiltA.b {f : GFilter} (h : FiltA f) : FiltB f := ⟨h.k0, h.k1, h.c3, h.s2, h.ca.b, h.sa.b⟩
theorem filt_a {f : GFilter} (R : RdP rFilter h q f) (hok : f.ok = true) : FiltA f := by
  have c := arr_a (R.foc foc_Filter_C)
  have s := arr_a (R.foc foc_Filter_S)
  unfold GFilter.ok inR at hok
  simp only [Bool.and_eq_true, decide_eq_true_eq] at hok
  exact ⟨hok.1.1.1, hok.1.1.2, c.2, s.2, c.1, s.1⟩
/-- Rings as they are told and read again. -/
structure RingA (r : GRing) : Prop where
  ok : r.ok = true
  a : A32 r.Samples
theorem RingA.b {r : GRing} (h : RingA r) : RingB r := ring_b h.ok h.a.b
structure BowA (x : GBow) : Prop where
  n : RingA x.Neck
  b : RingA x.Bridge
  d : FiltA x.Damp
  s : A32 [x.Slope, x.Loss]
theorem BowA.bb {x : GBow} (h : BowA x) : BowB x := ⟨h.n.b, h.b.b, h.d.b, h.s.b⟩
theorem bow_a {x : GBow} (R : RdP rBow h q x) (hok : x.ok = true) : BowA x := by
  have rg := bow_rings hok
  have fl : x.Damp.ok = true := by
    unfold GBow.ok at hok
    simp only [Bool.and_eq_true] at hok
    exact hok.1.2.1
  exact ⟨⟨rg.1, ring_a (R.foc foc_Bow_Neck)⟩, ⟨rg.2, ring_a (R.foc foc_Bow_Bridge)⟩, filt_a (R.foc foc_Bow_Damp) fl, .two (f32_a (R.foc foc_Bow_Slope)) (f32_a (R.foc foc_Bow_Loss))⟩
end
end Go.Sx
/- What functions of this seat's program compute, told in words (a predicate over heaps for each), and the proofs that the words are no more than the code's own weakest precondition. -/
namespace Go.Sx
open Go.Proofs
set_option linter.unusedVariables false
set_option maxRecDepth 100000

def strconv_FormatUint.S (i_0 : Int) (base_1 : Int) (Post : Value → Heap → Prop) (h : Heap) : Prop :=
    CALL prg f_internal_strconv_FormatUint #[.int .u64 i_0, .int .i64 base_1] (fun q1 h2 =>
    asS q1 fun s3 =>
    Post (.string s3) h2) h
noncomputable def strconv_FormatUint.code : Code := (Tryz.f158.body).getD .skip
theorem strconv_FormatUint.call {i_0 : Int} {base_1 : Int} {Post : Value → Heap → Prop} {h : Heap} (H : strconv_FormatUint.S i_0 base_1 Post h) : CALL prg f_strconv_FormatUint #[.int .u64 i_0, .int .i64 base_1] Post h :=
  fn_call tau_ok mixed (c := strconv_FormatUint.code) (Λ := lookL []) Tryz.func158 (by kernel_rfl) (by kernel_rfl)
    (Rq.free (by kernel_rfl))
    (Eq.mp (by kernel_rfl) H)

def internal_strconv_FormatUint.S (i_0 : Int) (base_1 : Int) (Post : Value → Heap → Prop) (h : Heap) : Prop :=
    BIF (base_1 == (10 : Int)) (
    BIF ((decide (i_0 < (100 : Int)))) (
    CALL prg f_internal_strconv_small #[.int .i64 (IntKind.i64.wrap i_0)] (fun q1 h2 =>
    asS q1 fun s3 =>
    Post (.string s3) h2) h) (
    ALC ⟨Z_24_uint8⟩ T_24_uint8 (fun g4 h5 =>
    CALL prg f_internal_strconv_numDigits #[.int .u64 i_0] (fun q6 h7 =>
    asI .i64 q6 fun n8 =>
    SLB (0 : Int) n8 (24 : Int) <|
    CALL prg f_internal_strconv_formatBase10 #[.slice (some (slP ⟨g4, 0, none⟩ 24 0 1)) ((Int.toNat n8) - 0) (24 - 0), .int .u64 i_0] (fun q9 h10 =>
    SLB (0 : Int) n8 (24 : Int) <|
    SEMV prg (convert T_sl_uint8 T_string (.slice (some (slP ⟨g4, 0, none⟩ 24 0 1)) ((Int.toNat n8) - 0) (24 - 0))) (fun q11 h12 =>
    asS q11 fun s13 =>
    Post (.string s13) h12) h10) h7) h5) h)) (
    CALL prg f_internal_strconv_formatBits #[.slice none 0 0, .int .u64 i_0, .int .i64 base_1, .bool false, .bool false] (fun q14 h15 =>
    TUP2 q14 fun q16 q17 =>
    asL q16 fun l18b l18l l18c =>
    asS q17 fun s19 =>
    Post (.string s19) h15) h)
noncomputable def internal_strconv_FormatUint.code : Code := (Tryz.f230.body).getD .skip
theorem internal_strconv_FormatUint.call {i_0 : Int} {base_1 : Int} {Post : Value → Heap → Prop} {h : Heap} (H : internal_strconv_FormatUint.S i_0 base_1 Post h) : CALL prg f_internal_strconv_FormatUint #[.int .u64 i_0, .int .i64 base_1] Post h :=
  fn_call tau_ok mixed (c := internal_strconv_FormatUint.code) (Λ := lookL []) Tryz.func230 (by kernel_rfl) (by kernel_rfl)
    (Rq.free (by kernel_rfl))
    (Eq.mp (by kernel_rfl) H)

def impl_bitsText.S (a_0 : Nat) (Post : Value → Heap → Prop) (h : Heap) : Prop :=
    CALL prg f_impl_bitsOf #[.float .f32 a_0] (fun q1 h2 =>
    asI .u32 q1 fun n3 =>
    CALL prg f_strconv_FormatUint #[.int .u64 (IntKind.u64.wrap n3), .int .i64 (16 : Int)] (fun q4 h5 =>
    asS q4 fun s6 =>
    CALL prg f_strings_Repeat #[.string (⟨#[48]⟩ : ByteArray), .int .i64 ((IntKind.i64.wrap ((8 : Int) - ((ByteArray.size s6) : Int))))] (fun q9 h10 =>
    asS q9 fun s11 =>
    ((ByteArray.size s11 + ByteArray.size s6 : Nat) : Int) ≤ 9223372036854775807 ∧ (
    Post (.string (s11 ++ s6)) h10)) h5) h2) h
noncomputable def impl_bitsText.code : Code := (Tryz.f74.body).getD .skip
theorem impl_bitsText.call {a_0 : Nat} {Post : Value → Heap → Prop} {h : Heap} (H : impl_bitsText.S a_0 Post h) : CALL prg f_impl_bitsText #[.float .f32 a_0] Post h :=
  fn_call tau_ok mixed (c := impl_bitsText.code) (Λ := lookL []) Tryz.func74 (by kernel_rfl) (by kernel_rfl)
    (Rq.free (by kernel_rfl))
    (Eq.mp (by kernel_rfl) H)

def impl_samplesText.B3 (Post : Value → Heap → Prop) (N3 : (Option Addr × Nat × Nat × Option Addr × Nat × Nat × Int × Int) → Heap → Prop) : Option Addr × Nat × Nat × Option Addr × Nat × Nat × Int × Int → Heap → Prop
  | (words_3b, words_3l, words_3c, t6b, t6l, t6c, t7, t8), h =>
    BIF (decide (t8 < t7)) (
    IDXS t6b t8 t6l fun p3 =>
    oF .f32 (cell h ((Addr.add p3 ((Int.toNat t8) * 1)))) fun r4 =>
    CALL prg f_impl_bitsText #[.float .f32 r4] (fun q5 h6 =>
    asS q5 fun s7 =>
    ALC ⟨[.string s7]⟩ T_string (fun g8 h9 =>
    SEMV prg (Builtin.append_ #[T_sl_string, T_sl_string] T_sl_string #[.slice words_3b words_3l words_3c, .slice (some ⟨g8, 0, none⟩) 1 1]) (fun q10 h11 =>
    asL q10 fun l12b l12l l12c =>
    N3 (l12b, l12l, l12c, t6b, t6l, t6c, t7, ((IntKind.i64.wrap (t8 + (1 : Int))))) h11) h9) h6) h) (
    CALL prg f_strings_Join #[.slice words_3b words_3l words_3c, .string (⟨#[32]⟩ : ByteArray)] (fun q13 h14 =>
    asS q13 fun s15 =>
    Post (.string s15) h14) h)
def impl_samplesText.g3 (fr : Frame) : Option Addr × Nat × Nat × Option Addr × Nat × Nat × Int × Int := ((gLb (lget fr 3)), (gLl (lget fr 3)), (gLc (lget fr 3)), (gLb (lget fr 6)), (gLl (lget fr 6)), (gLc (lget fr 6)), (gI (lget fr 7)), (gI (lget fr 8)))
def impl_samplesText.l3 (Post : Value → Heap → Prop) : Frame → Heap → Prop := fun fr h => GRD (shape (kds 20 [(3, .l), (6, .l), (7, .i .i64), (8, .i .i64)]) fr) (LOOP (impl_samplesText.B3 Post) (impl_samplesText.g3 fr) h)
def impl_samplesText.S (list_0b : Option Addr) (list_0l list_0c : Nat) (Post : Value → Heap → Prop) (h : Heap) : Prop :=
    LOOP (impl_samplesText.B3 Post) (none, 0, 0, list_0b, list_0l, list_0c, (list_0l : Int), (0 : Int)) h
noncomputable def impl_samplesText.code : Code := (Tryz.f162.body).getD .skip
theorem impl_samplesText.call {list_0b : Option Addr} {list_0l list_0c : Nat} {Post : Value → Heap → Prop} {h : Heap} (H : impl_samplesText.S list_0b list_0l list_0c Post h) : CALL prg f_impl_samplesText #[.slice list_0b list_0l list_0c] Post h :=
  fn_call tau_ok mixed (c := impl_samplesText.code) (Λ := lookL [(1000003, impl_samplesText.l3 Post)]) Tryz.func162 (by kernel_rfl) (by kernel_rfl)
    (Rq.seq (by kernel_rfl) (Rq.free (by kernel_rfl)) (Rq.seq (by kernel_rfl) (Rq.free (by kernel_rfl)) (Rq.seq (by kernel_rfl) (Rq.seq (by kernel_rfl) (Rq.free (by kernel_rfl)) (Rq.block (Rq.loop (impl_samplesText.l3 Post) (by kernel_rfl) (segL (g := impl_samplesText.g3) tau_ok mixed (Λ := fun N3 => lookL []) (fun _ _ _ => by kernel_rfl) (fun N3 => (Rq.free (by kernel_rfl))))))) (Rq.free (by kernel_rfl)))))
    (Eq.mp (by kernel_rfl) H)

end Go.Sx
