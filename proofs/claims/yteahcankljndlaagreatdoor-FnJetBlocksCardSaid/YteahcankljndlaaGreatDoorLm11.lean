/- Silence stays: bows that are not drawn, jets that are not blown, rooms to which nothing comes. -/
import Derived.Test.YteahcankljndlaaGreatDoorDr
import Derived.Test.YteahcankljndlaaGreatDoorLk59
import Derived.Test.YteahcankljndlaaGreatDoorLm7
import Derived.Test.YteahcankljndlaaGreatDoorLk45
import Derived.Test.YteahcankljndlaaGreatDoorLs1
import Derived.Test.YteahcankljndlaaGreatDoorLk21
import Derived.Test.YteahcankljndlaaGreatDoorTab
import Derived.Test.YteahcankljndlaaGreatDoorLp4
import Derived.Test.YteahcankljndlaaGreatDoorLgn
set_option linter.unusedVariables false
set_option linter.unusedSimpArgs false
namespace Go.Sx
open Go.Proofs Ieee
set_option maxRecDepth 100000
set_option maxHeartbeats 1000000

def Z2 (a : Nat) : Prop := a = 0 ∨ a = 2147483648
theorem zeq {a : Nat} (ha : Z2 a) : feq .f32 a 0 = true := by rcases ha with rfl | rfl <;> decide +kernel
theorem z0 : Z2 0 := .inl rfl
def GRing.nil (r : GRing) : Prop := ∀ a ∈ r.Samples, a = 0
theorem nil_mute (r : GRing) : r.mute.nil := fun a ha => (List.mem_replicate.1 ha).2
theorem nil_zero {r : GRing} (h : r.nil) : r.zero = true := by
  unfold GRing.zero
  rw [List.all_eq_true]
  intro a ha
  rw [h a ha]
  exact zeq z0
/-- A filter of finite numbers at rest. -/
structure Rest (k : Int) (f : GFilter) : Prop where
  k : f.Kind = k
  c : ∀ i : Nat, fin f.C[i]! = true
  s : f.S = [0, 0]
theorem fin0 : fin 0 = true := by decide +kernel
theorem used_fin {l : List Nat} {n : Int} (h : used l n = true) (i : Nat) : fin l[i]! = true := by
  by_cases hi : i < l.length
  · unfold used at h
    have := List.all_eq_true.1 h i (List.mem_range.2 hi)
    rw [Bool.and_eq_true] at this
    exact this.1
  · rw [List.getElem!_eq_getElem?_getD, List.getElem?_eq_none (by omega)]; exact fin0
theorem rest_mute {k : Int} {f : GFilter} (h : (f.ok && f.Kind == k) = true) : Rest k f.mute := by
  rw [Bool.and_eq_true, beq_iff_eq] at h
  have h1 := h.1
  unfold GFilter.ok at h1
  simp only [Bool.and_eq_true] at h1
  exact ⟨h.2, used_fin h1.1.2, rfl⟩
theorem rest_still {k : Int} {f : GFilter} (h : Rest k f) : f.still = true := by
  unfold GFilter.still
  rw [h.s]
  show (feq .f32 0 0 && feq .f32 0 0) = true
  rw [zeq z0]; rfl
def GBow.mute (x : GBow) : GBow := { x with Neck := x.Neck.mute, Bridge := x.Bridge.mute, Damp := x.Damp.mute }
structure GBow.Nil (x : GBow) : Prop where
  n : x.Neck.nil
  b : x.Bridge.nil
  d : Rest 1 x.Damp
  s : fin x.Slope = true
  l : fin x.Loss = true
theorem mute_okf {r : GRing} (h : r.okf = true) : r.mute.okf = true := by
  unfold GRing.okf at *
  rw [Bool.and_eq_true] at *
  refine ⟨?_, zeros_fin _⟩
  have h1 := h.1
  unfold GRing.ok GRing.len GRing.mute at *
  rw [List.length_replicate]
  exact h1
theorem mute_ok1 {k : Int} {f : GFilter} (h : (f.ok && f.Kind == k) = true) : (f.mute.ok && f.mute.Kind == k) = true := by
  rw [Bool.and_eq_true, beq_iff_eq] at *
  refine ⟨?_, h.2⟩
  have h1 := h.1
  unfold GFilter.ok GFilter.mute at *
  simp only [Bool.and_eq_true] at *
  refine ⟨h1.1, ?_⟩
  unfold used
  rw [List.all_eq_true]
  intro i hi
  rw [List.mem_range] at hi
  have : i < 2 := hi
  rcases (show i = 0 ∨ i = 1 by omega) with rfl | rfl
  · show (fin 0 && _) = true; rw [fin0]; simp
  · show (fin 0 && _) = true; rw [fin0]; simp
def jetAt (p : Nat) : Nat := clamp (fmul .f32 p (fsub .f32 (fmul .f32 p p) 1065353216)) 1065353216
def GJet.ok (x : GJet) : Bool := x.Throat.okf && x.Bore.okf && (x.Low.ok && x.Low.Kind == 1) && (x.Dc.ok && x.Dc.Kind == 5) && (fin x.Near && fin x.Far)
def GJet.step (x : GJet) (a : Nat) : GJet × Nat :=
  let l := x.Low.step x.Bore.old
  let d := x.Dc.step l.2
  ({ x with Throat := x.Throat.push (kept (fsub .f32 a (fmul .f32 x.Near d.2))), Bore := x.Bore.push (kept (fadd .f32 (jetAt x.Throat.old) (fmul .f32 x.Far d.2))), Low := l.1, Dc := d.1 }, x.Bore.old)
def GJet.mute (x : GJet) : GJet := { x with Throat := x.Throat.mute, Bore := x.Bore.mute, Low := x.Low.mute, Dc := x.Dc.mute }
def GJet.silent (x : GJet) : Bool := x.Throat.zero && x.Bore.zero && x.Low.still && x.Dc.still
structure GJet.Nil (x : GJet) : Prop where
  t : x.Throat.nil
  b : x.Bore.nil
  l : Rest 1 x.Low
  d : Rest 5 x.Dc
  n : fin x.Near = true
  f : fin x.Far = true
theorem jet_mute_ok {x : GJet} (h : x.ok = true) : x.mute.ok = true ∧ x.mute.Nil := by
  unfold GJet.ok at *
  simp only [Bool.and_eq_true] at h
  obtain ⟨⟨⟨⟨h1, h2⟩, h3⟩, h4⟩, h5, h6⟩ := h
  have h3' : (x.Low.ok && x.Low.Kind == 1) = true := by rw [Bool.and_eq_true]; exact h3
  have h4' : (x.Dc.ok && x.Dc.Kind == 5) = true := by rw [Bool.and_eq_true]; exact h4
  refine ⟨?_, nil_mute _, nil_mute _, rest_mute h3', rest_mute h4', h5, h6⟩
  show (x.Throat.mute.okf && x.Bore.mute.okf && (x.Low.mute.ok && x.Low.mute.Kind == 1) && (x.Dc.mute.ok && x.Dc.mute.Kind == 5) && (fin x.Near && fin x.Far)) = true
  rw [mute_okf h1, mute_okf h2, mute_ok1 h3', mute_ok1 h4', h5, h6]; rfl
theorem jet_nil_silent {x : GJet} (N : x.Nil) : x.silent = true := by
  unfold GJet.silent
  rw [nil_zero N.t, nil_zero N.b, rest_still N.l, rest_still N.d]; rfl
structure GRoom.Nil (x : GRoom) : Prop where
  e : x.Early.nil
  t : ∀ t ∈ x.Taps, fin t.Gain = true
  c2 : x.Combs.length = 2
  c : ∀ c ∈ x.Combs, c.Ring.nil ∧ fin c.Gain = true
  l4 : x.Loops.length = 4
  l : ∀ r ∈ x.Loops, r.nil
  d4 : x.Damps.length = 4
  d : ∀ f ∈ x.Damps, Rest 1 f
  g4 : x.Gains.length = 4
  g : ∀ a ∈ x.Gains, fin a = true
  dry : fin x.Dry = true
  wet : fin x.Wet = true
end Go.Sx
/- Drawn bows are valid. -/
set_option linter.unusedVariables false
set_option linter.unusedSimpArgs false
namespace Go.Sx
open Go.Proofs Ieee
set_option maxRecDepth 100000
set_option maxHeartbeats 2000000

/-- What a drawn thing is. -/
def Drawn {α : Type} (r : Rep α) (ok : α → Bool) (h0 h' : Heap) (L : List Blk) (u : Value) : Prop := ∃ cs B x, u = .agg cs ∧ r.ow B cs.toList x ∧ ok x = true ∧ Mem h0 h' (B ++ L)
/-- A valid new thing. -/
def NewOk {α : Type} (r : Rep α) (ok : α → Bool) (h h' : Heap) (u : Value) : Prop := ∃ cs B x, u = .tuple ⟨[.agg cs, .int .i64 (0 : Int)]⟩ ∧ r.ow B cs.toList x ∧ ok x = true ∧ Mem h h' B
theorem NewOk.go {α : Type} {r : Rep α} {ok : α → Bool} {P : Program} {f : FuncId} {args : Array Value} {hh : Heap} {Q : Value → Heap → Prop} (c : CALL P f args (fun u h' => NewOk r ok hh h' u) hh) (H : ∀ h' cs B x, r.ow B cs.toList x → ok x = true → Mem hh h' B → Q (.tuple ⟨[.agg cs, .int .i64 (0 : Int)]⟩) h') : CALL P f args Q hh :=
  c.mono fun u h' ⟨cs, B, x, e, O, hx, N⟩ => by subst e; exact H h' cs B x O hx N
section
variable {α : Type} {rp : Rep α} {h0 h h' : Heap} {L W : List Blk} {g T : Nat} {cb : Option Addr} {cc K : Nat} {xs : List Int} {n : Int}
theorem Src.joinG {hh : Heap} {B : List Blk} (S : Src h0 h L g cb xs.length cc K) (N : Mem h hh B) : Src h0 hh (B ++ L) g cb xs.length cc K := by
  obtain ⟨p, st, hp, M⟩ := S
  exact ⟨p, st, hp, (M.join N).cnt fun p => by simp only [cnt_app, cnt_cons, cnt_nil]; omega⟩
/-- A thing in a block, beside the machine. -/
def DG (rp : Rep α) (T : Nat) (h0 h : Heap) (L : List Blk) (g : Nat) (cb : Option Addr) (cl cc K r : Nat) (x : α) : Prop := ∃ cs B, rp.ow B cs.toList x ∧ Src h0 h ((r, T, cs) :: (B ++ L)) g cb cl cc K
theorem DG.pt {r : Nat} {x : α} (D : DG rp T h0 h L g cb xs.length cc K r x) : ∃ (p : Nat) (st : Int), p ≤ K ∧ Pt rp h0 h ⟨r, 0, none⟩ ⟨r, T, [], []⟩ ((g, T_spec_l00Src, ⟨[.slice cb xs.length cc, .int .i64 (p : Int), .int .u64 st]⟩) :: L) x := by
  obtain ⟨cs, B, O, p, st, hp, M⟩ := D
  exact ⟨p, st, hp, Pt.new O (M.cnt fun p => by simp only [cnt_app, cnt_cons, cnt_nil]; omega)⟩
theorem DG.of {r p : Nat} {st : Int} {x : α} (hp : p ≤ K) (P : Pt rp h0 h ⟨r, 0, none⟩ ⟨r, T, [], []⟩ ((g, T_spec_l00Src, ⟨[.slice cb xs.length cc, .int .i64 (p : Int), .int .u64 st]⟩) :: L) x) : DG rp T h0 h L g cb xs.length cc K r x := by
  obtain ⟨cs, B, M, O⟩ := P.out
  exact ⟨cs, B, O, p, st, hp, M.cnt fun p => by simp only [cnt_app, cnt_cons, cnt_nil]; omega⟩
end
theorem keep_fin {v : Int} (h0 : -17 ≤ v) (h1 : v < 33) : fin (keepW v) = true := by
  have A : (List.range 50).all (fun v => fin (keepW ((v : Int) - 17))) = true := by decide +kernel
  obtain ⟨n, hn⟩ := Int.eq_ofNat_of_zero_le (show 0 ≤ v + 17 by omega)
  have := List.all_eq_true.1 A n (List.mem_range.2 (by omega))
  rwa [show ((n : Nat) : Int) - 17 = v by omega] at this
end Go.Sx
/- Players that run, kept so by what happens and by a step. -/
set_option linter.unusedVariables false
set_option linter.unusedSimpArgs false
namespace Go.Sx
open Go.Proofs
set_option maxRecDepth 100000
set_option maxHeartbeats 1000000

theorem now1_iff {p : GPlayer} (h : p.now1 = true) : p.Next < p.Score.Events.length ∧ p.Score.Events[p.Next.toNat]!.At = p.Now := by
  unfold GPlayer.now1 at h
  rw [Bool.and_eq_true, decide_eq_true_iff, beq_iff_eq] at h
  exact h
/-- No voice has the note of a start that is still to come. -/
theorem none_has {p : GPlayer} (R : p.Runs) (h : p.Next < p.Score.Events.length) (hs : isSt p.Score.Events[p.Next.toNat]! = true) {v : GVoice} (hv : v ∈ p.Voices) : ¬ v.Note = p.Score.Events[p.Next.toNat]!.Note := fun e => by
  have nx := R.nx
  have G := score_ev R.s
  have hn := (G.note p.Next.toNat (by omega)).1
  rcases R.v v hv with h1 | ⟨j, h1, h2, h3, h4, _⟩
  · omega
  · have := G.st1 j p.Next.toNat h1 (by omega) h3 hs (by rw [h4, e])
    omega
theorem gone_same (s : GScore) (v : GVoice) : (goneV s v).Note = v.Note ∧ (goneV s v).Instrument = v.Instrument ∧ s.kind (goneV s v) = s.kind v := by
  unfold goneV
  split <;> exact ⟨rfl, rfl, rfl⟩
theorem gone_runs {s : GScore} {v : GVoice} {k : Int} (h : bodyRuns k v) : bodyRuns k (goneV s v) := by
  unfold goneV
  split <;> exact h
theorem VoiceRuns.mono {s : GScore} {n m : Int} {v : GVoice} (h : VoiceRuns s n v) (hm : n ≤ m) : VoiceRuns s m v := by
  obtain ⟨j, h1, h2, r⟩ := h
  exact ⟨j, h1, by omega, r⟩
theorem next_runs {p : GPlayer} (R : p.Runs) (h : p.Next < p.Score.Events.length) : p.next.Runs := by
  have nx := R.nx
  have sk := R.sk
  have hl : p.Next.toNat < p.Score.Events.length := by omega
  have G := score_ev R.s
  obtain ⟨e, he⟩ : ∃ e, e = p.Score.Events[p.Next.toNat]! := ⟨_, rfl⟩
  unfold GPlayer.next
  rw [← he]
  by_cases hk : e.Kind = 2
  · have hs : isSt e = true := by unfold isSt; rw [hk]; rfl
    have no : ∀ {v : GVoice}, v ∈ p.Voices → ¬ v.Note = e.Note := fun hv => by rw [he]; exact none_has R h (by rw [← he]; exact hs) hv
    have hn : 0 ≤ e.Note := by rw [he]; exact (G.note _ hl).1
    rw [happen_start hk]
    cases hv : voiceOf p.Score e with
    | none => exact ⟨R.s, R.n1, R.n6, ⟨by show 0 ≤ p.Next + 1; omega, by show p.Next + 1 ≤ (p.Score.Events.length : Int); omega⟩, ⟨by show 0 ≤ p.Skipped + 1; omega, by show p.Skipped + 1 ≤ 64 + (p.Next + 1); omega⟩, fun v hv => (R.v v hv).imp id fun V => V.mono (by show p.Next ≤ p.Next + 1; omega), R.d⟩
    | some w =>
      obtain ⟨w1, w2, w3⟩ := voice_new hv
      have hp := placeOf_lt R.n1
      refine ⟨R.s, by show 1 ≤ (p.Voices.set _ w).length; rw [List.length_set]; exact R.n1, by show (p.Voices.set _ w).length ≤ 6; rw [List.length_set]; exact R.n6, ⟨by show 0 ≤ p.Next + 1; omega, by show p.Next + 1 ≤ (p.Score.Events.length : Int); omega⟩, ⟨sk.1, by show p.Skipped ≤ 64 + (p.Next + 1); omega⟩, fun v hv => ?_, fun i j hij hj hnn => ?_⟩
      · rcases List.mem_or_eq_of_mem_set hv with hv | rfl
        · exact (R.v v hv).imp id fun V => V.mono (by show p.Next ≤ p.Next + 1; omega)
        · exact .inr ⟨p.Next.toNat, hl, by show ((p.Next.toNat : Nat) : Int) < p.Next + 1; omega, by show isSt p.Score.Events[p.Next.toNat]! = true; rw [← he]; exact hs, by show p.Score.Events[p.Next.toNat]!.Note = _; rw [← he, w1], by show p.Score.Events[p.Next.toNat]!.Instrument = _; rw [← he, w2], w3⟩
      · have hj : j < (p.Voices.set (placeOf p.Voices) w).length := hj
        rw [List.length_set] at hj
        have hnn : (p.Voices.set (placeOf p.Voices) w)[i]!.Note = (p.Voices.set (placeOf p.Voices) w)[j]!.Note := hnn
        show (p.Voices.set (placeOf p.Voices) w)[i]!.Note = -1
        rw [get_set (by omega), get_set (by omega)] at hnn
        rw [get_set (by omega)]
        by_cases e1 : placeOf p.Voices = i
        · rw [if_pos e1] at hnn ⊢
          rw [if_neg (by omega)] at hnn
          exact absurd (by rw [← hnn, w1]) (no (mem_get hj))
        · rw [if_neg e1] at hnn ⊢
          by_cases e2 : placeOf p.Voices = j
          · rw [if_pos e2] at hnn
            exact absurd (by rw [hnn, w1]) (no (mem_get (show i < p.Voices.length by omega)))
          · rw [if_neg e2] at hnn
            exact R.d i j hij hj hnn
  · rw [happen_stop hk]
    have hnote : ∀ v, (stopV p.Score e.Note v).Note = v.Note := fun v => by unfold stopV; split <;> first | exact (gone_same _ v).1 | rfl
    refine ⟨R.s, by show 1 ≤ (p.Voices.map _).length; rw [List.length_map]; exact R.n1, by show (p.Voices.map _).length ≤ 6; rw [List.length_map]; exact R.n6, ⟨by show 0 ≤ p.Next + 1; omega, by show p.Next + 1 ≤ (p.Score.Events.length : Int); omega⟩, ⟨sk.1, by show p.Skipped ≤ 64 + (p.Next + 1); omega⟩, fun v hv => ?_, fun i j hij hj hnn => ?_⟩
    · obtain ⟨u, hu, rfl⟩ := List.mem_map.1 hv
      rw [hnote]
      refine (R.v u hu).imp id fun V => ?_
      have V := V.mono (show p.Next ≤ p.Next + 1 by omega)
      unfold stopV
      split
      · obtain ⟨j, h1, h2, h3, h4, h5, h6⟩ := V
        obtain ⟨g1, g2, g3⟩ := gone_same p.Score u
        exact ⟨j, h1, h2, h3, by rw [g1]; exact h4, by rw [g2]; exact h5, by show bodyRuns (p.Score.kind (goneV p.Score u)) _; rw [g3]; exact gone_runs h6⟩
      · exact V
    · have hj : j < (p.Voices.map (stopV p.Score e.Note)).length := hj
      rw [List.length_map] at hj
      have hnn : (p.Voices.map (stopV p.Score e.Note))[i]!.Note = (p.Voices.map (stopV p.Score e.Note))[j]!.Note := hnn
      show (p.Voices.map (stopV p.Score e.Note))[i]!.Note = -1
      rw [map_get (by omega), map_get (by omega), hnote, hnote] at hnn
      rw [map_get (by omega), hnote]
      exact R.d i j hij hj hnn
theorem next_score (p : GPlayer) : p.next.Score = p.Score ∧ p.next.Now = p.Now ∧ p.next.Next = p.Next + 1 := by
  unfold GPlayer.next GPlayer.happen
  split
  · cases voiceOf p.Score _ <;> exact ⟨rfl, rfl, rfl⟩
  · exact ⟨rfl, rfl, rfl⟩
/-- The loop over events, from a player on. -/
theorem run_step {p : GPlayer} (R : p.Runs) (h : p.now1 = true) : GPlayer.run (p.Score.Events.length - p.Next.toNat) p = GPlayer.run (p.next.Score.Events.length - p.next.Next.toNat) p.next := by
  have nx := R.nx
  obtain ⟨h1, h2⟩ := now1_iff h
  obtain ⟨g1, g2, g3⟩ := next_score p
  rw [g1, g3, show p.Score.Events.length - p.Next.toNat = (p.Score.Events.length - (p.Next + 1).toNat) + 1 by omega]
  conv => lhs; unfold GPlayer.run
  rw [if_pos h]
theorem run_done {p : GPlayer} (h : p.now1 = false) : ∀ k, GPlayer.run k p = p
  | 0 => rfl
  | k + 1 => by unfold GPlayer.run; rw [h, if_neg (by decide)]
end Go.Sx
/- A player's step: the rule's. -/
set_option linter.unusedVariables false
set_option linter.unusedSimpArgs false
namespace Go.Sx
open Go.Proofs
set_option maxRecDepth 100000
set_option maxHeartbeats 2000000

section
variable {h0 h : Heap} {q : Addr} {F : Fr} {L : List Blk} {p : GPlayer}
/-- A player within the loop over events. -/
structure RunsTo (p0 p : GPlayer) : Prop where
  r : p.Runs
  n : p.Now = p0.Now
  e : GPlayer.run (p.Score.Events.length - p.Next.toNat) p = GPlayer.run (p0.Score.Events.length - p0.Next.toNat) p0
  s : p.Score = p0.Score
theorem RunsTo.next {p0 p : GPlayer} (R : RunsTo p0 p) (h : p.now1 = true) : RunsTo p0 p.next := by
  obtain ⟨g1, g2, g3⟩ := next_score p
  exact ⟨next_runs R.r (now1_iff h).1, by rw [g2, R.n], by rw [← run_step R.r h, R.e], by rw [g1, R.s]⟩
theorem RunsTo.done {p0 p : GPlayer} (R : RunsTo p0 p) (h : p.now1 = false) : p.sounded = p0.step := by
  unfold GPlayer.step
  rw [← R.e, run_done h]
end
end Go.Sx
/- Voices copied. -/
set_option linter.unusedVariables false
set_option linter.unusedSimpArgs false
namespace Go.Sx
open Go.Proofs
set_option maxRecDepth 100000
set_option maxHeartbeats 2000000

def GVoice.small (v : GVoice) : Prop := v.String.Loop.Samples.length ≤ 1048576 ∧ v.Pipe.small ∧ v.Bow.Neck.Samples.length ≤ 1048576 ∧ v.Bow.Bridge.Samples.length ≤ 1048576
end Go.Sx
/- One element appended to an own slice beside own data. -/
set_option linter.unusedVariables false
set_option linter.unusedSimpArgs false
namespace Go.Sx
open Go.Proofs
set_option maxRecDepth 100000
set_option maxHeartbeats 1000000

section
variable {α β : Type} {r : Rep α} {s : Rep β} {P : Program} {h0 h : Heap} {q : Addr} {F : Fr} {B L : List Blk} {d : α} {t e bytes ty : Nat} {b : Option Addr} {l c : Nat} {xs : List β} {K : Value → Heap → Prop}
/-- One element appended to an own slice beside own data. -/
theorem Pt.push {cs : Array Value} {x : β} (Pa : Pt r h0 h q F (B ++ L) d) (E : ElemT P t e s.sz bytes) (O : SlO e s B b l c xs) (Ox : s.ow [] cs.toList x) (hmax : l + 1 ≤ maxLen) (hbytes : (l + 1) * bytes ≤ 140737488355328)
    (H : ∀ b' c' h' B', SlO e s B' b' (l + 1) c' (xs ++ [x]) → Pt r h0 h' q F (B' ++ L) d → K (.slice b' (l + 1) c') h') :
    ALC cs e (fun g h => SEMV P (Builtin.append_ #[t, t] ty #[.slice b l c, .slice (some ⟨g, 0, none⟩) 1 1]) K h) h := by
  obtain ⟨e1, mid, BR, M, OR⟩ := Pa
  refine push_own (Bn := []) (L := (F.g, F.T, ⟨F.pre ++ (mid ++ F.post)⟩) :: (BR ++ L)) E O (M.cnt fun p => by simp only [cnt_app, cnt_cons, cnt_nil]; omega) Ox hmax hbytes fun b' c' h' B' O' M' => H b' c' h' B' O' ⟨e1, mid, BR, M'.cnt fun p => ?_, OR⟩
  simp only [cnt_app, cnt_cons, cnt_nil]; omega
end
end Go.Sx
/- Bows muted, played, pulled and moved on. -/
set_option linter.unusedVariables false
set_option linter.unusedSimpArgs false
namespace Go.Sx
open Go.Proofs
set_option maxRecDepth 100000
set_option maxHeartbeats 1000000

theorem okf_len {r : GRing} (h : r.okf = true) : r.Samples.length ≤ 1048576 := by
  have h1 : r.ok = true := by unfold GRing.okf at h; rw [Bool.and_eq_true] at h; exact h.1
  have k := at_lt h1
  omega
/-- Steps one after the other. -/
def playG {α : Type} (st : α → Nat → α × Nat) (x : α) : List Nat → α × List Nat
  | [] => (x, [])
  | a :: l => ((playG st (st x a).1 l).1, (st x a).2 :: (playG st (st x a).1 l).2)
theorem playG_append {α : Type} (st : α → Nat → α × Nat) (x : α) : ∀ l m : List Nat, playG st x (l ++ m) = ((playG st (playG st x l).1 m).1, (playG st x l).2 ++ (playG st (playG st x l).1 m).2)
  | [], m => by simp [playG]
  | a :: l, m => by simp only [List.cons_append, playG]; rw [playG_append st _ l m]
theorem playG_step {α : Type} {st : α → Nat → α × Nat} {x : α} {xs : List Nat} {n : Nat} (hn : n < xs.length) : playG st x (xs.take (n + 1)) = ((st (playG st x (xs.take n)).1 xs[n]!).1, (playG st x (xs.take n)).2 ++ [(st (playG st x (xs.take n)).1 xs[n]!).2]) := by rw [take_snoc hn, playG_append]; rfl
/-- A thing, a slice of floats and a code, told by a call. -/
def TriG {α : Type} (r : Rep α) (h h' : Heap) (u : Value) (x : α) (ys : List Nat) (code : Int) : Prop := ∃ cs B b l c C, u = .tuple ⟨[.agg cs, .slice b l c, .int .i64 code]⟩ ∧ r.ow B cs.toList x ∧ SlO T_float32 (rF .f32) C b l c ys ∧ Mem h h' (B ++ C)
theorem TriG.go {α : Type} {r : Rep α} {P : Program} {f : FuncId} {args : Array Value} {x : α} {ys : List Nat} {code : Int} {hb h : Heap} {L : List Blk} {K : Value → Heap → Prop} (M : Mem hb h L) (k : CALL P f args (fun u h' => TriG r h h' u x ys code) h)
    (H : ∀ h' cs B b l c C, Mem hb h' ((B ++ C) ++ L) → r.ow B cs.toList x → SlO T_float32 (rF .f32) C b l c ys → K (.tuple ⟨[.agg cs, .slice b l c, .int .i64 code]⟩) h') : CALL P f args K h :=
  k.mono fun u h' ⟨cs, B, b, l, c, C, e, O, S, N⟩ => by subst e; exact H h' cs B b l c C (M.join N) O S
section
variable {h : Heap} {q : Addr} {x : GBow} {xs : List Nat} {b : Option Addr} {l c : Nat} {cs : Array Value}
/-- A thing, a float and a code, told by a call. -/
def MidG {α : Type} (r : Rep α) (h h' : Heap) (u : Value) (x : α) (y : Nat) (code : Int) : Prop := ∃ cs B w, u = .tuple ⟨[.agg cs, .float .f32 w, .int .i64 code]⟩ ∧ r.ow B cs.toList x ∧ FW .f32 w y ∧ Mem h h' B
theorem MidG.go {α : Type} {r : Rep α} {P : Program} {f : FuncId} {args : Array Value} {x : α} {y : Nat} {code : Int} {hb h : Heap} {L : List Blk} {K : Value → Heap → Prop} (M : Mem hb h L) (k : CALL P f args (fun u h' => MidG r h h' u x y code) h)
    (H : ∀ h' cs B w, Mem hb h' (B ++ L) → r.ow B cs.toList x → FW .f32 w y → K (.tuple ⟨[.agg cs, .float .f32 w, .int .i64 code]⟩) h') : CALL P f args K h :=
  k.mono fun u h' ⟨cs, B, w, e, O, S, N⟩ => by subst e; exact H h' cs B w (M.join N) O S
end
end Go.Sx
