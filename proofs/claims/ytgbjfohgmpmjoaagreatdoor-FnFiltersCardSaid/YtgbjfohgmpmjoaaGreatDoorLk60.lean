/- Players that run, kept so by what happens and by a step. -/
import Derived.Test.YtgbjfohgmpmjoaaGreatDoorLk59
import Derived.Test.YtgbjfohgmpmjoaaGreatDoorLk46
import Derived.Test.YtgbjfohgmpmjoaaGreatDoorLp7
import Derived.Test.YtgbjfohgmpmjoaaGreatDoorLr2
import Derived.Test.YtgbjfohgmpmjoaaGreatDoorTab
set_option linter.unusedVariables false
set_option linter.unusedSimpArgs false
namespace Go.Sx
open Go.Proofs
set_option maxRecDepth 100000
set_option maxHeartbeats 1000000

theorem now1_iff {p : GPlayer} (h : p.now1 = true) : p.Next < p.Score.Events.length ∧ p.Score.Events[p.Next.toNat]!.At = p.Now := by
  unfold GPlayer.now1 at h
  rw [Bool.and_eq_true, decide_eq_true_iff, beq_iff_eq] at h
  exact h
/-- No voice has the note of a start that is still to come. -/
theorem none_has {p : GPlayer} (R : p.Runs) (h : p.Next < p.Score.Events.length) (hs : isSt p.Score.Events[p.Next.toNat]! = true) {v : GVoice} (hv : v ∈ p.Voices) : ¬ v.Note = p.Score.Events[p.Next.toNat]!.Note := fun e => by
  have nx := R.nx
  have G := score_ev R.s
  have hn := (G.note p.Next.toNat (by omega)).1
  rcases R.v v hv with h1 | ⟨j, h1, h2, h3, h4, _⟩
  · omega
  · have := G.st1 j p.Next.toNat h1 (by omega) h3 hs (by rw [h4, e])
    omega
theorem gone_same (s : GScore) (v : GVoice) : (goneV s v).Note = v.Note ∧ (goneV s v).Instrument = v.Instrument ∧ s.kind (goneV s v) = s.kind v := by
  unfold goneV
  split <;> exact ⟨rfl, rfl, rfl⟩
theorem gone_runs {s : GScore} {v : GVoice} {k : Int} (h : bodyRuns k v) : bodyRuns k (goneV s v) := by
  unfold goneV
  split <;> exact h
theorem VoiceRuns.mono {s : GScore} {n m : Int} {v : GVoice} (h : VoiceRuns s n v) (hm : n ≤ m) : VoiceRuns s m v := by
  obtain ⟨j, h1, h2, r⟩ := h
  exact ⟨j, h1, by omega, r⟩
theorem next_runs {p : GPlayer} (R : p.Runs) (h : p.Next < p.Score.Events.length) : p.next.Runs := by
  have nx := R.nx
  have sk := R.sk
  have hl : p.Next.toNat < p.Score.Events.length := by omega
  have G := score_ev R.s
  obtain ⟨e, he⟩ : ∃ e, e = p.Score.Events[p.Next.toNat]! := ⟨_, rfl⟩
  unfold GPlayer.next
  rw [← he]
  by_cases hk : e.Kind = 2
  · have hs : isSt e = true := by unfold isSt; rw [hk]; rfl
    have no : ∀ {v : GVoice}, v ∈ p.Voices → ¬ v.Note = e.Note := fun hv => by rw [he]; exact none_has R h (by rw [← he]; exact hs) hv
    have hn : 0 ≤ e.Note := by rw [he]; exact (G.note _ hl).1
    rw [happen_start hk]
    cases hv : voiceOf p.Score e with
    | none => exact ⟨R.s, R.n1, R.n6, ⟨by show 0 ≤ p.Next + 1; omega, by show p.Next + 1 ≤ (p.Score.Events.length : Int); omega⟩, ⟨by show 0 ≤ p.Skipped + 1; omega, by show p.Skipped + 1 ≤ 64 + (p.Next + 1); omega⟩, fun v hv => (R.v v hv).imp id fun V => V.mono (by show p.Next ≤ p.Next + 1; omega), R.d⟩
    | some w =>
      obtain ⟨w1, w2, w3⟩ := voice_new hv
      have hp := placeOf_lt R.n1
      refine ⟨R.s, by show 1 ≤ (p.Voices.set _ w).length; rw [List.length_set]; exact R.n1, by show (p.Voices.set _ w).length ≤ 6; rw [List.length_set]; exact R.n6, ⟨by show 0 ≤ p.Next + 1; omega, by show p.Next + 1 ≤ (p.Score.Events.length : Int); omega⟩, ⟨sk.1, by show p.Skipped ≤ 64 + (p.Next + 1); omega⟩, fun v hv => ?_, fun i j hij hj hnn => ?_⟩
      · rcases List.mem_or_eq_of_mem_set hv with hv | rfl
        · exact (R.v v hv).imp id fun V => V.mono (by show p.Next ≤ p.Next + 1; omega)
        · exact .inr ⟨p.Next.toNat, hl, by show ((p.Next.toNat : Nat) : Int) < p.Next + 1; omega, by show isSt p.Score.Events[p.Next.toNat]! = true; rw [← he]; exact hs, by show p.Score.Events[p.Next.toNat]!.Note = _; rw [← he, w1], by show p.Score.Events[p.Next.toNat]!.Instrument = _; rw [← he, w2], w3⟩
      · have hj : j < (p.Voices.set (placeOf p.Voices) w).length := hj
        rw [List.length_set] at hj
        have hnn : (p.Voices.set (placeOf p.Voices) w)[i]!.Note = (p.Voices.set (placeOf p.Voices) w)[j]!.Note := hnn
        show (p.Voices.set (placeOf p.Voices) w)[i]!.Note = -1
        rw [get_set (by omega), get_set (by omega)] at hnn
        rw [get_set (by omega)]
        by_cases e1 : placeOf p.Voices = i
        · rw [if_pos e1] at hnn ⊢
          rw [if_neg (by omega)] at hnn
          exact absurd (by rw [← hnn, w1]) (no (mem_get hj))
        · rw [if_neg e1] at hnn ⊢
          by_cases e2 : placeOf p.Voices = j
          · rw [if_pos e2] at hnn
            exact absurd (by rw [hnn, w1]) (no (mem_get (show i < p.Voices.length by omega)))
          · rw [if_neg e2] at hnn
            exact R.d i j hij hj hnn
  · rw [happen_stop hk]
    have hnote : ∀ v, (stopV p.Score e.Note v).Note = v.Note := fun v => by unfold stopV; split <;> first | exact (gone_same _ v).1 | rfl
    refine ⟨R.s, by show 1 ≤ (p.Voices.map _).length; rw [List.length_map]; exact R.n1, by show (p.Voices.map _).length ≤ 6; rw [List.length_map]; exact R.n6, ⟨by show 0 ≤ p.Next + 1; omega, by show p.Next + 1 ≤ (p.Score.Events.length : Int); omega⟩, ⟨sk.1, by show p.Skipped ≤ 64 + (p.Next + 1); omega⟩, fun v hv => ?_, fun i j hij hj hnn => ?_⟩
    · obtain ⟨u, hu, rfl⟩ := List.mem_map.1 hv
      rw [hnote]
      refine (R.v u hu).imp id fun V => ?_
      have V := V.mono (show p.Next ≤ p.Next + 1 by omega)
      unfold stopV
      split
      · obtain ⟨j, h1, h2, h3, h4, h5, h6⟩ := V
        obtain ⟨g1, g2, g3⟩ := gone_same p.Score u
        exact ⟨j, h1, h2, h3, by rw [g1]; exact h4, by rw [g2]; exact h5, by show bodyRuns (p.Score.kind (goneV p.Score u)) _; rw [g3]; exact gone_runs h6⟩
      · exact V
    · have hj : j < (p.Voices.map (stopV p.Score e.Note)).length := hj
      rw [List.length_map] at hj
      have hnn : (p.Voices.map (stopV p.Score e.Note))[i]!.Note = (p.Voices.map (stopV p.Score e.Note))[j]!.Note := hnn
      show (p.Voices.map (stopV p.Score e.Note))[i]!.Note = -1
      rw [map_get (by omega), map_get (by omega), hnote, hnote] at hnn
      rw [map_get (by omega), hnote]
      exact R.d i j hij hj hnn
theorem next_score (p : GPlayer) : p.next.Score = p.Score ∧ p.next.Now = p.Now ∧ p.next.Next = p.Next + 1 := by
  unfold GPlayer.next GPlayer.happen
  split
  · cases voiceOf p.Score _ <;> exact ⟨rfl, rfl, rfl⟩
  · exact ⟨rfl, rfl, rfl⟩
/-- The loop over events, from a player on. -/
theorem run_step {p : GPlayer} (R : p.Runs) (h : p.now1 = true) : GPlayer.run (p.Score.Events.length - p.Next.toNat) p = GPlayer.run (p.next.Score.Events.length - p.next.Next.toNat) p.next := by
  have nx := R.nx
  obtain ⟨h1, h2⟩ := now1_iff h
  obtain ⟨g1, g2, g3⟩ := next_score p
  rw [g1, g3, show p.Score.Events.length - p.Next.toNat = (p.Score.Events.length - (p.Next + 1).toNat) + 1 by omega]
  conv => lhs; unfold GPlayer.run
  rw [if_pos h]
theorem run_done {p : GPlayer} (h : p.now1 = false) : ∀ k, GPlayer.run k p = p
  | 0 => rfl
  | k + 1 => by unfold GPlayer.run; rw [h, if_neg (by decide)]
end Go.Sx
/- A player's step: the rule's. -/
set_option linter.unusedVariables false
set_option linter.unusedSimpArgs false
namespace Go.Sx
open Go.Proofs
set_option maxRecDepth 100000
set_option maxHeartbeats 2000000

section
variable {h0 h : Heap} {q : Addr} {F : Fr} {L : List Blk} {p : GPlayer}
/-- A player within the loop over events. -/
structure RunsTo (p0 p : GPlayer) : Prop where
  r : p.Runs
  n : p.Now = p0.Now
  e : GPlayer.run (p.Score.Events.length - p.Next.toNat) p = GPlayer.run (p0.Score.Events.length - p0.Next.toNat) p0
  s : p.Score = p0.Score
theorem RunsTo.next {p0 p : GPlayer} (R : RunsTo p0 p) (h : p.now1 = true) : RunsTo p0 p.next := by
  obtain ⟨g1, g2, g3⟩ := next_score p
  exact ⟨next_runs R.r (now1_iff h).1, by rw [g2, R.n], by rw [← run_step R.r h, R.e], by rw [g1, R.s]⟩
theorem RunsTo.done {p0 p : GPlayer} (R : RunsTo p0 p) (h : p.now1 = false) : p.sounded = p0.step := by
  unfold GPlayer.step
  rw [← R.e, run_done h]
end
end Go.Sx
/- Voices copied. -/
set_option linter.unusedVariables false
set_option linter.unusedSimpArgs false
namespace Go.Sx
open Go.Proofs
set_option maxRecDepth 100000
set_option maxHeartbeats 2000000

def GVoice.small (v : GVoice) : Prop := v.String.Loop.Samples.length ≤ 1048576 ∧ v.Pipe.small ∧ v.Bow.Neck.Samples.length ≤ 1048576 ∧ v.Bow.Bridge.Samples.length ≤ 1048576
end Go.Sx
/- One element appended to an own slice beside own data. -/
set_option linter.unusedVariables false
set_option linter.unusedSimpArgs false
namespace Go.Sx
open Go.Proofs
set_option maxRecDepth 100000
set_option maxHeartbeats 1000000

section
variable {α β : Type} {r : Rep α} {s : Rep β} {P : Program} {h0 h : Heap} {q : Addr} {F : Fr} {B L : List Blk} {d : α} {t e bytes ty : Nat} {b : Option Addr} {l c : Nat} {xs : List β} {K : Value → Heap → Prop}
/-- One element appended to an own slice beside own data. -/
theorem Pt.push {cs : Array Value} {x : β} (Pa : Pt r h0 h q F (B ++ L) d) (E : ElemT P t e s.sz bytes) (O : SlO e s B b l c xs) (Ox : s.ow [] cs.toList x) (hmax : l + 1 ≤ maxLen) (hbytes : (l + 1) * bytes ≤ 140737488355328)
    (H : ∀ b' c' h' B', SlO e s B' b' (l + 1) c' (xs ++ [x]) → Pt r h0 h' q F (B' ++ L) d → K (.slice b' (l + 1) c') h') :
    ALC cs e (fun g h => SEMV P (Builtin.append_ #[t, t] ty #[.slice b l c, .slice (some ⟨g, 0, none⟩) 1 1]) K h) h := by
  obtain ⟨e1, mid, BR, M, OR⟩ := Pa
  refine push_own (Bn := []) (L := (F.g, F.T, ⟨F.pre ++ (mid ++ F.post)⟩) :: (BR ++ L)) E O (M.cnt fun p => by simp only [cnt_app, cnt_cons, cnt_nil]; omega) Ox hmax hbytes fun b' c' h' B' O' M' => H b' c' h' B' O' ⟨e1, mid, BR, M'.cnt fun p => ?_, OR⟩
  simp only [cnt_app, cnt_cons, cnt_nil]; omega
end
end Go.Sx
/- Bows muted, played, pulled and moved on. -/
set_option linter.unusedVariables false
set_option linter.unusedSimpArgs false
namespace Go.Sx
open Go.Proofs
set_option maxRecDepth 100000
set_option maxHeartbeats 1000000

/-- Steps one after the other. -/
def playG {α : Type} (st : α → Nat → α × Nat) (x : α) : List Nat → α × List Nat
  | [] => (x, [])
  | a :: l => ((playG st (st x a).1 l).1, (st x a).2 :: (playG st (st x a).1 l).2)
theorem playG_append {α : Type} (st : α → Nat → α × Nat) (x : α) : ∀ l m : List Nat, playG st x (l ++ m) = ((playG st (playG st x l).1 m).1, (playG st x l).2 ++ (playG st (playG st x l).1 m).2)
  | [], m => by simp [playG]
  | a :: l, m => by simp only [List.cons_append, playG]; rw [playG_append st _ l m]
theorem playG_step {α : Type} {st : α → Nat → α × Nat} {x : α} {xs : List Nat} {n : Nat} (hn : n < xs.length) : playG st x (xs.take (n + 1)) = ((st (playG st x (xs.take n)).1 xs[n]!).1, (playG st x (xs.take n)).2 ++ [(st (playG st x (xs.take n)).1 xs[n]!).2]) := by rw [take_snoc hn, playG_append]; rfl
/-- A thing, a slice of floats and a code, told by a call. -/
def TriG {α : Type} (r : Rep α) (h h' : Heap) (u : Value) (x : α) (ys : List Nat) (code : Int) : Prop := ∃ cs B b l c C, u = .tuple ⟨[.agg cs, .slice b l c, .int .i64 code]⟩ ∧ r.ow B cs.toList x ∧ SlO T_float32 (rF .f32) C b l c ys ∧ Mem h h' (B ++ C)
theorem TriG.go {α : Type} {r : Rep α} {P : Program} {f : FuncId} {args : Array Value} {x : α} {ys : List Nat} {code : Int} {hb h : Heap} {L : List Blk} {K : Value → Heap → Prop} (M : Mem hb h L) (k : CALL P f args (fun u h' => TriG r h h' u x ys code) h)
    (H : ∀ h' cs B b l c C, Mem hb h' ((B ++ C) ++ L) → r.ow B cs.toList x → SlO T_float32 (rF .f32) C b l c ys → K (.tuple ⟨[.agg cs, .slice b l c, .int .i64 code]⟩) h') : CALL P f args K h :=
  k.mono fun u h' ⟨cs, B, b, l, c, C, e, O, S, N⟩ => by subst e; exact H h' cs B b l c C (M.join N) O S
section
variable {h : Heap} {q : Addr} {x : GBow} {xs : List Nat} {b : Option Addr} {l c : Nat} {cs : Array Value}
/-- A thing, a float and a code, told by a call. -/
def MidG {α : Type} (r : Rep α) (h h' : Heap) (u : Value) (x : α) (y : Nat) (code : Int) : Prop := ∃ cs B w, u = .tuple ⟨[.agg cs, .float .f32 w, .int .i64 code]⟩ ∧ r.ow B cs.toList x ∧ FW .f32 w y ∧ Mem h h' B
theorem MidG.go {α : Type} {r : Rep α} {P : Program} {f : FuncId} {args : Array Value} {x : α} {y : Nat} {code : Int} {hb h : Heap} {L : List Blk} {K : Value → Heap → Prop} (M : Mem hb h L) (k : CALL P f args (fun u h' => MidG r h h' u x y code) h)
    (H : ∀ h' cs B w, Mem hb h' (B ++ L) → r.ow B cs.toList x → FW .f32 w y → K (.tuple ⟨[.agg cs, .float .f32 w, .int .i64 code]⟩) h') : CALL P f args K h :=
  k.mono fun u h' ⟨cs, B, w, e, O, S, N⟩ => by subst e; exact H h' cs B w (M.join N) O S
end
end Go.Sx
/- What functions of this seat's program compute, told in words (a predicate over heaps for each), and the proofs that the words are no more than the code's own weakest precondition. -/
namespace Go.Sx
open Go.Proofs
set_option linter.unusedVariables false
set_option maxRecDepth 100000

def spec_BlockDc.S (keep_0 : Nat) (Post : Value → Heap → Prop) (h : Heap) : Prop :=
    ALC ⟨Z_impl_Filter⟩ T_impl_Filter (fun g1 h2 =>
    SIZ (Array.size (⟨[.float .f32 keep_0, .float .f32 0, .float .f32 0]⟩ : Array Value)) 3 <|
    STA 6 h2 ⟨g1, 0, none⟩ (⟨[.int .i64 (5 : Int), .float .f32 keep_0, .float .f32 0, .float .f32 0, .float .f32 0, .float .f32 0]⟩ : Array Value) fun h3 =>
    LDA 6 h3 ⟨g1, 0, none⟩ fun a4 =>
    Post (.agg a4) h3) h
noncomputable def spec_BlockDc.code : Code := (Tryz.f81.body).getD .skip
theorem spec_BlockDc.call {keep_0 : Nat} {Post : Value → Heap → Prop} {h : Heap} (H : spec_BlockDc.S keep_0 Post h) : CALL prg f_spec_BlockDc #[.float .f32 keep_0] Post h :=
  fn_call tau_ok mixed (c := spec_BlockDc.code) (Λ := lookL []) Tryz.func81 (by kernel_rfl) (by kernel_rfl)
    (Rq.free (by kernel_rfl))
    (Eq.mp (by kernel_rfl) H)

end Go.Sx
/- Jets: valid, copied, moved on, muted, played. -/
set_option linter.unusedVariables false
set_option linter.unusedSimpArgs false
namespace Go.Sx
open Go.Proofs
set_option maxRecDepth 100000
set_option maxHeartbeats 2000000

theorem used_setN {l : List Nat} {n : Int} {a i : Nat} (h : used l n = true) (hn : (i : Int) < n) : used (l.set i (kept a)) n = true := by
  unfold used at *
  rw [List.all_eq_true] at *
  intro j hj
  rw [List.mem_range, List.length_set] at hj
  have := h j (List.mem_range.2 hj)
  rw [Bool.and_eq_true] at *
  rw [setGet hj]
  split
  · next e => subst e; exact ⟨kept_fin a, by rw [decide_eq_true (by omega)]; rfl⟩
  · exact this
end Go.Sx
