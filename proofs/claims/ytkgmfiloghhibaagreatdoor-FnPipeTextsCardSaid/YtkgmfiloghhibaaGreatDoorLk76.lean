/- Drawn bows are valid. -/
import Derived.Test.YtkgmfiloghhibaaGreatDoorLk59
import Derived.Test.YtkgmfiloghhibaaGreatDoorLk10
import Derived.Test.YtkgmfiloghhibaaGreatDoorLm6
import Derived.Test.YtkgmfiloghhibaaGreatDoorLk16
import Derived.Test.YtkgmfiloghhibaaGreatDoorK2
import Derived.Test.YtkgmfiloghhibaaGreatDoorLk56
import Derived.Test.YtkgmfiloghhibaaGreatDoorTab
import Derived.Test.YtkgmfiloghhibaaGreatDoorLk14
import Derived.Test.YtkgmfiloghhibaaGreatDoorLgn
import Derived.Test.YtkgmfiloghhibaaGreatDoorLv0
set_option linter.unusedVariables false
set_option linter.unusedSimpArgs false
namespace Go.Sx
open Go.Proofs Ieee
set_option maxRecDepth 100000
set_option maxHeartbeats 2000000

/-- What a drawn thing is. -/
def Drawn {α : Type} (r : Rep α) (ok : α → Bool) (h0 h' : Heap) (L : List Blk) (u : Value) : Prop := ∃ cs B x, u = .agg cs ∧ r.ow B cs.toList x ∧ ok x = true ∧ Mem h0 h' (B ++ L)
/-- A valid new thing. -/
def NewOk {α : Type} (r : Rep α) (ok : α → Bool) (h h' : Heap) (u : Value) : Prop := ∃ cs B x, u = .tuple ⟨[.agg cs, .int .i64 (0 : Int)]⟩ ∧ r.ow B cs.toList x ∧ ok x = true ∧ Mem h h' B
theorem NewOk.go {α : Type} {r : Rep α} {ok : α → Bool} {P : Program} {f : FuncId} {args : Array Value} {hh : Heap} {Q : Value → Heap → Prop} (c : CALL P f args (fun u h' => NewOk r ok hh h' u) hh) (H : ∀ h' cs B x, r.ow B cs.toList x → ok x = true → Mem hh h' B → Q (.tuple ⟨[.agg cs, .int .i64 (0 : Int)]⟩) h') : CALL P f args Q hh :=
  c.mono fun u h' ⟨cs, B, x, e, O, hx, N⟩ => by subst e; exact H h' cs B x O hx N
section
variable {α : Type} {rp : Rep α} {h0 h h' : Heap} {L W : List Blk} {g T : Nat} {cb : Option Addr} {cc K : Nat} {xs : List Int} {n : Int}
theorem Src.joinG {hh : Heap} {B : List Blk} (S : Src h0 h L g cb xs.length cc K) (N : Mem h hh B) : Src h0 hh (B ++ L) g cb xs.length cc K := by
  obtain ⟨p, st, hp, M⟩ := S
  exact ⟨p, st, hp, (M.join N).cnt fun p => by simp only [cnt_app, cnt_cons, cnt_nil]; omega⟩
/-- A thing in a block, beside the machine. -/
def DG (rp : Rep α) (T : Nat) (h0 h : Heap) (L : List Blk) (g : Nat) (cb : Option Addr) (cl cc K r : Nat) (x : α) : Prop := ∃ cs B, rp.ow B cs.toList x ∧ Src h0 h ((r, T, cs) :: (B ++ L)) g cb cl cc K
theorem DG.pt {r : Nat} {x : α} (D : DG rp T h0 h L g cb xs.length cc K r x) : ∃ (p : Nat) (st : Int), p ≤ K ∧ Pt rp h0 h ⟨r, 0, none⟩ ⟨r, T, [], []⟩ ((g, T_spec_l00Src, ⟨[.slice cb xs.length cc, .int .i64 (p : Int), .int .u64 st]⟩) :: L) x := by
  obtain ⟨cs, B, O, p, st, hp, M⟩ := D
  exact ⟨p, st, hp, Pt.new O (M.cnt fun p => by simp only [cnt_app, cnt_cons, cnt_nil]; omega)⟩
theorem DG.of {r p : Nat} {st : Int} {x : α} (hp : p ≤ K) (P : Pt rp h0 h ⟨r, 0, none⟩ ⟨r, T, [], []⟩ ((g, T_spec_l00Src, ⟨[.slice cb xs.length cc, .int .i64 (p : Int), .int .u64 st]⟩) :: L) x) : DG rp T h0 h L g cb xs.length cc K r x := by
  obtain ⟨cs, B, M, O⟩ := P.out
  exact ⟨cs, B, O, p, st, hp, M.cnt fun p => by simp only [cnt_app, cnt_cons, cnt_nil]; omega⟩
end
def lossW (v : Int) : Nat := fdiv .f32 (FloatKind.f32.nearest v) 1098907648
theorem loss_in {v : Int} (h0 : 0 ≤ v) (h1 : v < 17) : (inside (lossW v) 0 1065353216 && fin (lossW v)) = true := by
  have A : (List.range 17).all (fun v => inside (lossW (v : Int)) 0 1065353216 && fin (lossW (v : Int))) = true := by decide +kernel
  obtain ⟨n, rfl⟩ := Int.eq_ofNat_of_zero_le h0
  exact List.all_eq_true.1 A n (List.mem_range.2 (by omega))
end Go.Sx
/- Players that run, kept so by what happens and by a step. -/
set_option linter.unusedVariables false
set_option linter.unusedSimpArgs false
namespace Go.Sx
open Go.Proofs
set_option maxRecDepth 100000
set_option maxHeartbeats 1000000

theorem now1_iff {p : GPlayer} (h : p.now1 = true) : p.Next < p.Score.Events.length ∧ p.Score.Events[p.Next.toNat]!.At = p.Now := by
  unfold GPlayer.now1 at h
  rw [Bool.and_eq_true, decide_eq_true_iff, beq_iff_eq] at h
  exact h
/-- No voice has the note of a start that is still to come. -/
theorem none_has {p : GPlayer} (R : p.Runs) (h : p.Next < p.Score.Events.length) (hs : isSt p.Score.Events[p.Next.toNat]! = true) {v : GVoice} (hv : v ∈ p.Voices) : ¬ v.Note = p.Score.Events[p.Next.toNat]!.Note := fun e => by
  have nx := R.nx
  have G := score_ev R.s
  have hn := (G.note p.Next.toNat (by omega)).1
  rcases R.v v hv with h1 | ⟨j, h1, h2, h3, h4, _⟩
  · omega
  · have := G.st1 j p.Next.toNat h1 (by omega) h3 hs (by rw [h4, e])
    omega
theorem gone_same (s : GScore) (v : GVoice) : (goneV s v).Note = v.Note ∧ (goneV s v).Instrument = v.Instrument ∧ s.kind (goneV s v) = s.kind v := by
  unfold goneV
  split <;> exact ⟨rfl, rfl, rfl⟩
theorem gone_runs {s : GScore} {v : GVoice} {k : Int} (h : bodyRuns k v) : bodyRuns k (goneV s v) := by
  unfold goneV
  split <;> exact h
theorem VoiceRuns.mono {s : GScore} {n m : Int} {v : GVoice} (h : VoiceRuns s n v) (hm : n ≤ m) : VoiceRuns s m v := by
  obtain ⟨j, h1, h2, r⟩ := h
  exact ⟨j, h1, by omega, r⟩
theorem next_runs {p : GPlayer} (R : p.Runs) (h : p.Next < p.Score.Events.length) : p.next.Runs := by
  have nx := R.nx
  have sk := R.sk
  have hl : p.Next.toNat < p.Score.Events.length := by omega
  have G := score_ev R.s
  obtain ⟨e, he⟩ : ∃ e, e = p.Score.Events[p.Next.toNat]! := ⟨_, rfl⟩
  unfold GPlayer.next
  rw [← he]
  by_cases hk : e.Kind = 2
  · have hs : isSt e = true := by unfold isSt; rw [hk]; rfl
    have no : ∀ {v : GVoice}, v ∈ p.Voices → ¬ v.Note = e.Note := fun hv => by rw [he]; exact none_has R h (by rw [← he]; exact hs) hv
    have hn : 0 ≤ e.Note := by rw [he]; exact (G.note _ hl).1
    rw [happen_start hk]
    cases hv : voiceOf p.Score e with
    | none => exact ⟨R.s, R.n1, R.n6, ⟨by show 0 ≤ p.Next + 1; omega, by show p.Next + 1 ≤ (p.Score.Events.length : Int); omega⟩, ⟨by show 0 ≤ p.Skipped + 1; omega, by show p.Skipped + 1 ≤ 64 + (p.Next + 1); omega⟩, fun v hv => (R.v v hv).imp id fun V => V.mono (by show p.Next ≤ p.Next + 1; omega), R.d⟩
    | some w =>
      obtain ⟨w1, w2, w3⟩ := voice_new hv
      have hp := placeOf_lt R.n1
      refine ⟨R.s, by show 1 ≤ (p.Voices.set _ w).length; rw [List.length_set]; exact R.n1, by show (p.Voices.set _ w).length ≤ 6; rw [List.length_set]; exact R.n6, ⟨by show 0 ≤ p.Next + 1; omega, by show p.Next + 1 ≤ (p.Score.Events.length : Int); omega⟩, ⟨sk.1, by show p.Skipped ≤ 64 + (p.Next + 1); omega⟩, fun v hv => ?_, fun i j hij hj hnn => ?_⟩
      · rcases List.mem_or_eq_of_mem_set hv with hv | rfl
        · exact (R.v v hv).imp id fun V => V.mono (by show p.Next ≤ p.Next + 1; omega)
        · exact .inr ⟨p.Next.toNat, hl, by show ((p.Next.toNat : Nat) : Int) < p.Next + 1; omega, by show isSt p.Score.Events[p.Next.toNat]! = true; rw [← he]; exact hs, by show p.Score.Events[p.Next.toNat]!.Note = _; rw [← he, w1], by show p.Score.Events[p.Next.toNat]!.Instrument = _; rw [← he, w2], w3⟩
      · have hj : j < (p.Voices.set (placeOf p.Voices) w).length := hj
        rw [List.length_set] at hj
        have hnn : (p.Voices.set (placeOf p.Voices) w)[i]!.Note = (p.Voices.set (placeOf p.Voices) w)[j]!.Note := hnn
        show (p.Voices.set (placeOf p.Voices) w)[i]!.Note = -1
        rw [get_set (by omega), get_set (by omega)] at hnn
        rw [get_set (by omega)]
        by_cases e1 : placeOf p.Voices = i
        · rw [if_pos e1] at hnn ⊢
          rw [if_neg (by omega)] at hnn
          exact absurd (by rw [← hnn, w1]) (no (mem_get hj))
        · rw [if_neg e1] at hnn ⊢
          by_cases e2 : placeOf p.Voices = j
          · rw [if_pos e2] at hnn
            exact absurd (by rw [hnn, w1]) (no (mem_get (show i < p.Voices.length by omega)))
          · rw [if_neg e2] at hnn
            exact R.d i j hij hj hnn
  · rw [happen_stop hk]
    have hnote : ∀ v, (stopV p.Score e.Note v).Note = v.Note := fun v => by unfold stopV; split <;> first | exact (gone_same _ v).1 | rfl
    refine ⟨R.s, by show 1 ≤ (p.Voices.map _).length; rw [List.length_map]; exact R.n1, by show (p.Voices.map _).length ≤ 6; rw [List.length_map]; exact R.n6, ⟨by show 0 ≤ p.Next + 1; omega, by show p.Next + 1 ≤ (p.Score.Events.length : Int); omega⟩, ⟨sk.1, by show p.Skipped ≤ 64 + (p.Next + 1); omega⟩, fun v hv => ?_, fun i j hij hj hnn => ?_⟩
    · obtain ⟨u, hu, rfl⟩ := List.mem_map.1 hv
      rw [hnote]
      refine (R.v u hu).imp id fun V => ?_
      have V := V.mono (show p.Next ≤ p.Next + 1 by omega)
      unfold stopV
      split
      · obtain ⟨j, h1, h2, h3, h4, h5, h6⟩ := V
        obtain ⟨g1, g2, g3⟩ := gone_same p.Score u
        exact ⟨j, h1, h2, h3, by rw [g1]; exact h4, by rw [g2]; exact h5, by show bodyRuns (p.Score.kind (goneV p.Score u)) _; rw [g3]; exact gone_runs h6⟩
      · exact V
    · have hj : j < (p.Voices.map (stopV p.Score e.Note)).length := hj
      rw [List.length_map] at hj
      have hnn : (p.Voices.map (stopV p.Score e.Note))[i]!.Note = (p.Voices.map (stopV p.Score e.Note))[j]!.Note := hnn
      show (p.Voices.map (stopV p.Score e.Note))[i]!.Note = -1
      rw [map_get (by omega), map_get (by omega), hnote, hnote] at hnn
      rw [map_get (by omega), hnote]
      exact R.d i j hij hj hnn
theorem next_score (p : GPlayer) : p.next.Score = p.Score ∧ p.next.Now = p.Now ∧ p.next.Next = p.Next + 1 := by
  unfold GPlayer.next GPlayer.happen
  split
  · cases voiceOf p.Score _ <;> exact ⟨rfl, rfl, rfl⟩
  · exact ⟨rfl, rfl, rfl⟩
/-- The loop over events, from a player on. -/
theorem run_step {p : GPlayer} (R : p.Runs) (h : p.now1 = true) : GPlayer.run (p.Score.Events.length - p.Next.toNat) p = GPlayer.run (p.next.Score.Events.length - p.next.Next.toNat) p.next := by
  have nx := R.nx
  obtain ⟨h1, h2⟩ := now1_iff h
  obtain ⟨g1, g2, g3⟩ := next_score p
  rw [g1, g3, show p.Score.Events.length - p.Next.toNat = (p.Score.Events.length - (p.Next + 1).toNat) + 1 by omega]
  conv => lhs; unfold GPlayer.run
  rw [if_pos h]
theorem run_done {p : GPlayer} (h : p.now1 = false) : ∀ k, GPlayer.run k p = p
  | 0 => rfl
  | k + 1 => by unfold GPlayer.run; rw [h, if_neg (by decide)]
end Go.Sx
/- A player's step: the rule's. -/
set_option linter.unusedVariables false
set_option linter.unusedSimpArgs false
namespace Go.Sx
open Go.Proofs
set_option maxRecDepth 100000
set_option maxHeartbeats 2000000

section
variable {h0 h : Heap} {q : Addr} {F : Fr} {L : List Blk} {p : GPlayer}
/-- A player within the loop over events. -/
structure RunsTo (p0 p : GPlayer) : Prop where
  r : p.Runs
  n : p.Now = p0.Now
  e : GPlayer.run (p.Score.Events.length - p.Next.toNat) p = GPlayer.run (p0.Score.Events.length - p0.Next.toNat) p0
  s : p.Score = p0.Score
theorem RunsTo.next {p0 p : GPlayer} (R : RunsTo p0 p) (h : p.now1 = true) : RunsTo p0 p.next := by
  obtain ⟨g1, g2, g3⟩ := next_score p
  exact ⟨next_runs R.r (now1_iff h).1, by rw [g2, R.n], by rw [← run_step R.r h, R.e], by rw [g1, R.s]⟩
theorem RunsTo.done {p0 p : GPlayer} (R : RunsTo p0 p) (h : p.now1 = false) : p.sounded = p0.step := by
  unfold GPlayer.step
  rw [← R.e, run_done h]
end
end Go.Sx
/- Voices copied. -/
set_option linter.unusedVariables false
set_option linter.unusedSimpArgs false
namespace Go.Sx
open Go.Proofs
set_option maxRecDepth 100000
set_option maxHeartbeats 2000000

def GVoice.small (v : GVoice) : Prop := v.String.Loop.Samples.length ≤ 1048576 ∧ v.Pipe.small ∧ v.Bow.Neck.Samples.length ≤ 1048576 ∧ v.Bow.Bridge.Samples.length ≤ 1048576
end Go.Sx
/- Bows muted, played, pulled and moved on. -/
set_option linter.unusedVariables false
set_option linter.unusedSimpArgs false
namespace Go.Sx
open Go.Proofs
set_option maxRecDepth 100000
set_option maxHeartbeats 1000000

/-- A thing, a slice of floats and a code, told by a call. -/
def TriG {α : Type} (r : Rep α) (h h' : Heap) (u : Value) (x : α) (ys : List Nat) (code : Int) : Prop := ∃ cs B b l c C, u = .tuple ⟨[.agg cs, .slice b l c, .int .i64 code]⟩ ∧ r.ow B cs.toList x ∧ SlO T_float32 (rF .f32) C b l c ys ∧ Mem h h' (B ++ C)
theorem TriG.go {α : Type} {r : Rep α} {P : Program} {f : FuncId} {args : Array Value} {x : α} {ys : List Nat} {code : Int} {hb h : Heap} {L : List Blk} {K : Value → Heap → Prop} (M : Mem hb h L) (k : CALL P f args (fun u h' => TriG r h h' u x ys code) h)
    (H : ∀ h' cs B b l c C, Mem hb h' ((B ++ C) ++ L) → r.ow B cs.toList x → SlO T_float32 (rF .f32) C b l c ys → K (.tuple ⟨[.agg cs, .slice b l c, .int .i64 code]⟩) h') : CALL P f args K h :=
  k.mono fun u h' ⟨cs, B, b, l, c, C, e, O, S, N⟩ => by subst e; exact H h' cs B b l c C (M.join N) O S
section
variable {h : Heap} {q : Addr} {x : GBow} {xs : List Nat} {b : Option Addr} {l c : Nat} {cs : Array Value}
/-- A thing, a float and a code, told by a call. -/
def MidG {α : Type} (r : Rep α) (h h' : Heap) (u : Value) (x : α) (y : Nat) (code : Int) : Prop := ∃ cs B w, u = .tuple ⟨[.agg cs, .float .f32 w, .int .i64 code]⟩ ∧ r.ow B cs.toList x ∧ FW .f32 w y ∧ Mem h h' B
theorem MidG.go {α : Type} {r : Rep α} {P : Program} {f : FuncId} {args : Array Value} {x : α} {y : Nat} {code : Int} {hb h : Heap} {L : List Blk} {K : Value → Heap → Prop} (M : Mem hb h L) (k : CALL P f args (fun u h' => MidG r h h' u x y code) h)
    (H : ∀ h' cs B w, Mem hb h' (B ++ L) → r.ow B cs.toList x → FW .f32 w y → K (.tuple ⟨[.agg cs, .float .f32 w, .int .i64 code]⟩) h') : CALL P f args K h :=
  k.mono fun u h' ⟨cs, B, w, e, O, S, N⟩ => by subst e; exact H h' cs B w (M.join N) O S
end
end Go.Sx
/- Jets: valid, copied, moved on, muted, played. -/
set_option linter.unusedVariables false
set_option linter.unusedSimpArgs false
namespace Go.Sx
open Go.Proofs
set_option maxRecDepth 100000
set_option maxHeartbeats 2000000

theorem used_setN {l : List Nat} {n : Int} {a i : Nat} (h : used l n = true) (hn : (i : Int) < n) : used (l.set i (kept a)) n = true := by
  unfold used at *
  rw [List.all_eq_true] at *
  intro j hj
  rw [List.mem_range, List.length_set] at hj
  have := h j (List.mem_range.2 hj)
  rw [Bool.and_eq_true] at *
  rw [setGet hj]
  split
  · next e => subst e; exact ⟨kept_fin a, by rw [decide_eq_true (by omega)]; rfl⟩
  · exact this
end Go.Sx
/- What is read of floats, rings, filters: words of 32 bits, each NaN the one NaN. -/
set_option linter.unusedVariables false
set_option linter.unusedSimpArgs false
namespace Go.Sx
open Go.Proofs
set_option maxRecDepth 100000
set_option maxHeartbeats 1000000

/-- Samples as they are told and read again. -/
def A32 (xs : List Nat) : Prop := ∀ a ∈ xs, FW .f32 a a
theorem FW.both {k : FloatKind} {x a : Nat} (h : FW k x a) : FW k a a := ⟨h.self, h.lt⟩
theorem A32.b {xs : List Nat} (h : A32 xs) : B32 xs := fun a ha => (h a ha).lt
theorem A32.one {a : Nat} (h : FW .f32 a a) : A32 [a] := fun b hb => by rw [List.mem_singleton] at hb; rw [hb]; exact h
theorem A32.two {a b : Nat} (h : FW .f32 a a) (k : FW .f32 b b) : A32 [a, b] := fun c hc => by
  simp only [List.mem_cons, List.not_mem_nil, or_false] at hc
  rcases hc with rfl | rfl
  · exact h
  · exact k
theorem rds_a {h : Heap} : ∀ {xs : List Nat} {vs : List Value}, rds (rF .f32) h vs xs → A32 xs
  | [], _, _ => fun a ha => nomatch ha
  | x :: xs, vs, e => by
    obtain ⟨v1, v2, rfl, ⟨y, _, hy⟩, h2⟩ := e
    intro a ha
    rcases List.mem_cons.1 ha with rfl | ha
    · exact hy.both
    · exact rds_a h2 a ha
theorem SlR.a {h : Heap} {b : Option Addr} {l c : Nat} {xs : List Nat} (S : SlR (rF .f32) h b l c xs) : A32 xs := by
  obtain ⟨_, _, _, ws, _, h5⟩ := S
  exact rds_a h5
section
variable {h : Heap} {q : Addr}
theorem f32_a {a : Nat} (R : RdP (rF .f32) h q a) : FW .f32 a a := by
  obtain ⟨vs, _, y, _, hy⟩ := R
  exact hy.both
theorem ring_a {r : GRing} (R : RdP rRing h q r) : A32 r.Samples := by
  obtain ⟨vs, _, v1, v2, _, ⟨b, l, c, _, S⟩, _⟩ := R
  exact S.a
theorem arr_a {n : Nat} {xs : List Nat} (R : RdP (rArr n (rF .f32)) h q xs) : A32 xs ∧ xs.length = n := by
  obtain ⟨vs, _, h1, h2⟩ := R
  exact ⟨rds_a h2, h1⟩
/-- Filters as they are told and read again. -/
structure FiltA (f : GFilter) : Prop where
  k0 : 1 ≤ f.Kind
  k1 : f.Kind ≤ 5
  c3 : f.C.length = 3
  s2 : f.S.length = 2
  ca : A32 f.C
  sa : A32 f.S
theorem FiltA.b {f : GFilter} (h : FiltA f) : FiltB f := ⟨h.k0, h.k1, h.c3, h.s2, h.ca.b, h.sa.b⟩
theorem filt_a {f : GFilter} (R : RdP rFilter h q f) (hok : f.ok = true) : FiltA f := by
  have c := arr_a (R.foc foc_Filter_C)
  have s := arr_a (R.foc foc_Filter_S)
  unfold GFilter.ok inR at hok
  simp only [Bool.and_eq_true, decide_eq_true_eq] at hok
  exact ⟨hok.1.1.1, hok.1.1.2, c.2, s.2, c.1, s.1⟩
/-- Rings as they are told and read again. -/
structure RingA (r : GRing) : Prop where
  ok : r.ok = true
  a : A32 r.Samples
theorem RingA.b {r : GRing} (h : RingA r) : RingB r := ring_b h.ok h.a.b
structure BowA (x : GBow) : Prop where
  n : RingA x.Neck
  b : RingA x.Bridge
  d : FiltA x.Damp
  s : A32 [x.Slope, x.Loss]
theorem BowA.bb {x : GBow} (h : BowA x) : BowB x := ⟨h.n.b, h.b.b, h.d.b, h.s.b⟩
end
end Go.Sx
