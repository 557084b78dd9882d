/- Players that run, kept so by what happens and by a step. -/
import Derived.Test.YteahcankljndlaaGreatDoorLk59
import Derived.Test.YteahcankljndlaaGreatDoorLk34
import Derived.Test.YteahcankljndlaaGreatDoorLp4
import Derived.Test.YteahcankljndlaaGreatDoorLgn
import Derived.Test.YteahcankljndlaaGreatDoorKB
import Derived.Test.YteahcankljndlaaGreatDoorLk54
set_option linter.unusedVariables false
set_option linter.unusedSimpArgs false
namespace Go.Sx
open Go.Proofs
set_option maxRecDepth 100000
set_option maxHeartbeats 1000000

theorem now1_iff {p : GPlayer} (h : p.now1 = true) : p.Next < p.Score.Events.length ∧ p.Score.Events[p.Next.toNat]!.At = p.Now := by
  unfold GPlayer.now1 at h
  rw [Bool.and_eq_true, decide_eq_true_iff, beq_iff_eq] at h
  exact h
/-- No voice has the note of a start that is still to come. -/
theorem none_has {p : GPlayer} (R : p.Runs) (h : p.Next < p.Score.Events.length) (hs : isSt p.Score.Events[p.Next.toNat]! = true) {v : GVoice} (hv : v ∈ p.Voices) : ¬ v.Note = p.Score.Events[p.Next.toNat]!.Note := fun e => by
  have nx := R.nx
  have G := score_ev R.s
  have hn := (G.note p.Next.toNat (by omega)).1
  rcases R.v v hv with h1 | ⟨j, h1, h2, h3, h4, _⟩
  · omega
  · have := G.st1 j p.Next.toNat h1 (by omega) h3 hs (by rw [h4, e])
    omega
theorem gone_same (s : GScore) (v : GVoice) : (goneV s v).Note = v.Note ∧ (goneV s v).Instrument = v.Instrument ∧ s.kind (goneV s v) = s.kind v := by
  unfold goneV
  split <;> exact ⟨rfl, rfl, rfl⟩
theorem gone_runs {s : GScore} {v : GVoice} {k : Int} (h : bodyRuns k v) : bodyRuns k (goneV s v) := by
  unfold goneV
  split <;> exact h
theorem VoiceRuns.mono {s : GScore} {n m : Int} {v : GVoice} (h : VoiceRuns s n v) (hm : n ≤ m) : VoiceRuns s m v := by
  obtain ⟨j, h1, h2, r⟩ := h
  exact ⟨j, h1, by omega, r⟩
theorem next_runs {p : GPlayer} (R : p.Runs) (h : p.Next < p.Score.Events.length) : p.next.Runs := by
  have nx := R.nx
  have sk := R.sk
  have hl : p.Next.toNat < p.Score.Events.length := by omega
  have G := score_ev R.s
  obtain ⟨e, he⟩ : ∃ e, e = p.Score.Events[p.Next.toNat]! := ⟨_, rfl⟩
  unfold GPlayer.next
  rw [← he]
  by_cases hk : e.Kind = 2
  · have hs : isSt e = true := by unfold isSt; rw [hk]; rfl
    have no : ∀ {v : GVoice}, v ∈ p.Voices → ¬ v.Note = e.Note := fun hv => by rw [he]; exact none_has R h (by rw [← he]; exact hs) hv
    have hn : 0 ≤ e.Note := by rw [he]; exact (G.note _ hl).1
    rw [happen_start hk]
    cases hv : voiceOf p.Score e with
    | none => exact ⟨R.s, R.n1, R.n6, ⟨by show 0 ≤ p.Next + 1; omega, by show p.Next + 1 ≤ (p.Score.Events.length : Int); omega⟩, ⟨by show 0 ≤ p.Skipped + 1; omega, by show p.Skipped + 1 ≤ 64 + (p.Next + 1); omega⟩, fun v hv => (R.v v hv).imp id fun V => V.mono (by show p.Next ≤ p.Next + 1; omega), R.d⟩
    | some w =>
      obtain ⟨w1, w2, w3⟩ := voice_new hv
      have hp := placeOf_lt R.n1
      refine ⟨R.s, by show 1 ≤ (p.Voices.set _ w).length; rw [List.length_set]; exact R.n1, by show (p.Voices.set _ w).length ≤ 6; rw [List.length_set]; exact R.n6, ⟨by show 0 ≤ p.Next + 1; omega, by show p.Next + 1 ≤ (p.Score.Events.length : Int); omega⟩, ⟨sk.1, by show p.Skipped ≤ 64 + (p.Next + 1); omega⟩, fun v hv => ?_, fun i j hij hj hnn => ?_⟩
      · rcases List.mem_or_eq_of_mem_set hv with hv | rfl
        · exact (R.v v hv).imp id fun V => V.mono (by show p.Next ≤ p.Next + 1; omega)
        · exact .inr ⟨p.Next.toNat, hl, by show ((p.Next.toNat : Nat) : Int) < p.Next + 1; omega, by show isSt p.Score.Events[p.Next.toNat]! = true; rw [← he]; exact hs, by show p.Score.Events[p.Next.toNat]!.Note = _; rw [← he, w1], by show p.Score.Events[p.Next.toNat]!.Instrument = _; rw [← he, w2], w3⟩
      · have hj : j < (p.Voices.set (placeOf p.Voices) w).length := hj
        rw [List.length_set] at hj
        have hnn : (p.Voices.set (placeOf p.Voices) w)[i]!.Note = (p.Voices.set (placeOf p.Voices) w)[j]!.Note := hnn
        show (p.Voices.set (placeOf p.Voices) w)[i]!.Note = -1
        rw [get_set (by omega), get_set (by omega)] at hnn
        rw [get_set (by omega)]
        by_cases e1 : placeOf p.Voices = i
        · rw [if_pos e1] at hnn ⊢
          rw [if_neg (by omega)] at hnn
          exact absurd (by rw [← hnn, w1]) (no (mem_get hj))
        · rw [if_neg e1] at hnn ⊢
          by_cases e2 : placeOf p.Voices = j
          · rw [if_pos e2] at hnn
            exact absurd (by rw [hnn, w1]) (no (mem_get (show i < p.Voices.length by omega)))
          · rw [if_neg e2] at hnn
            exact R.d i j hij hj hnn
  · rw [happen_stop hk]
    have hnote : ∀ v, (stopV p.Score e.Note v).Note = v.Note := fun v => by unfold stopV; split <;> first | exact (gone_same _ v).1 | rfl
    refine ⟨R.s, by show 1 ≤ (p.Voices.map _).length; rw [List.length_map]; exact R.n1, by show (p.Voices.map _).length ≤ 6; rw [List.length_map]; exact R.n6, ⟨by show 0 ≤ p.Next + 1; omega, by show p.Next + 1 ≤ (p.Score.Events.length : Int); omega⟩, ⟨sk.1, by show p.Skipped ≤ 64 + (p.Next + 1); omega⟩, fun v hv => ?_, fun i j hij hj hnn => ?_⟩
    · obtain ⟨u, hu, rfl⟩ := List.mem_map.1 hv
      rw [hnote]
      refine (R.v u hu).imp id fun V => ?_
      have V := V.mono (show p.Next ≤ p.Next + 1 by omega)
      unfold stopV
      split
      · obtain ⟨j, h1, h2, h3, h4, h5, h6⟩ := V
        obtain ⟨g1, g2, g3⟩ := gone_same p.Score u
        exact ⟨j, h1, h2, h3, by rw [g1]; exact h4, by rw [g2]; exact h5, by show bodyRuns (p.Score.kind (goneV p.Score u)) _; rw [g3]; exact gone_runs h6⟩
      · exact V
    · have hj : j < (p.Voices.map (stopV p.Score e.Note)).length := hj
      rw [List.length_map] at hj
      have hnn : (p.Voices.map (stopV p.Score e.Note))[i]!.Note = (p.Voices.map (stopV p.Score e.Note))[j]!.Note := hnn
      show (p.Voices.map (stopV p.Score e.Note))[i]!.Note = -1
      rw [map_get (by omega), map_get (by omega), hnote, hnote] at hnn
      rw [map_get (by omega), hnote]
      exact R.d i j hij hj hnn
theorem next_score (p : GPlayer) : p.next.Score = p.Score ∧ p.next.Now = p.Now ∧ p.next.Next = p.Next + 1 := by
  unfold GPlayer.next GPlayer.happen
  split
  · cases voiceOf p.Score _ <;> exact ⟨rfl, rfl, rfl⟩
  · exact ⟨rfl, rfl, rfl⟩
/-- The loop over events, from a player on. -/
theorem run_step {p : GPlayer} (R : p.Runs) (h : p.now1 = true) : GPlayer.run (p.Score.Events.length - p.Next.toNat) p = GPlayer.run (p.next.Score.Events.length - p.next.Next.toNat) p.next := by
  have nx := R.nx
  obtain ⟨h1, h2⟩ := now1_iff h
  obtain ⟨g1, g2, g3⟩ := next_score p
  rw [g1, g3, show p.Score.Events.length - p.Next.toNat = (p.Score.Events.length - (p.Next + 1).toNat) + 1 by omega]
  conv => lhs; unfold GPlayer.run
  rw [if_pos h]
theorem run_done {p : GPlayer} (h : p.now1 = false) : ∀ k, GPlayer.run k p = p
  | 0 => rfl
  | k + 1 => by unfold GPlayer.run; rw [h, if_neg (by decide)]
end Go.Sx
/- A player's step: the rule's. -/
set_option linter.unusedVariables false
set_option linter.unusedSimpArgs false
namespace Go.Sx
open Go.Proofs
set_option maxRecDepth 100000
set_option maxHeartbeats 2000000

section
variable {h0 h : Heap} {q : Addr} {F : Fr} {L : List Blk} {p : GPlayer}
/-- A player within the loop over events. -/
structure RunsTo (p0 p : GPlayer) : Prop where
  r : p.Runs
  n : p.Now = p0.Now
  e : GPlayer.run (p.Score.Events.length - p.Next.toNat) p = GPlayer.run (p0.Score.Events.length - p0.Next.toNat) p0
  s : p.Score = p0.Score
theorem RunsTo.next {p0 p : GPlayer} (R : RunsTo p0 p) (h : p.now1 = true) : RunsTo p0 p.next := by
  obtain ⟨g1, g2, g3⟩ := next_score p
  exact ⟨next_runs R.r (now1_iff h).1, by rw [g2, R.n], by rw [← run_step R.r h, R.e], by rw [g1, R.s]⟩
theorem RunsTo.done {p0 p : GPlayer} (R : RunsTo p0 p) (h : p.now1 = false) : p.sounded = p0.step := by
  unfold GPlayer.step
  rw [← R.e, run_done h]
end
end Go.Sx
/- Voices copied. -/
set_option linter.unusedVariables false
set_option linter.unusedSimpArgs false
namespace Go.Sx
open Go.Proofs
set_option maxRecDepth 100000
set_option maxHeartbeats 2000000

/-- A bow's cells. -/
def boL (b1 : Option Addr) (l1 c1 : Nat) (n1 : Int) (b2 : Option Addr) (l2 c2 : Nat) (n2 : Int) (v : Int × Nat × Nat × Nat × Nat × Nat) (y z : Nat) : List Value :=
  [.slice b1 l1 c1, .int .i64 n1] ++ ([.slice b2 l2 c2, .int .i64 n2] ++ (flT v ++ [.float .f32 y, .float .f32 z]))
theorem bow_cells {h : Heap} {cs : Array Value} {x : GBow} (R : rBow.rd h cs.toList x) : ∃ b1 l1 c1 b2 l2 c2 v y z, cs = ⟨boL b1 l1 c1 x.Neck.At b2 l2 c2 x.Bridge.At v y z⟩ ∧ rFilter.ow [] (flT v) x.Damp ∧ FW .f32 y x.Slope ∧ FW .f32 z x.Loss := by
  obtain ⟨w1, r1, e1, ⟨u1, u2, rfl, ⟨b1, l1, c1, rfl, S1⟩, hat1⟩, w2, r2, rfl, ⟨u3, u4, rfl, ⟨b2, l2, c2, rfl, S2⟩, hat2⟩, w3, r3, rfl, F1, w4, w5, rfl, ⟨y, rfl, hy⟩, ⟨z, rfl, hz⟩⟩ := R
  have hat1 : u2 = [.int .i64 x.Neck.At] := hat1
  have hat2 : u4 = [.int .i64 x.Bridge.At] := hat2
  subst hat1 hat2
  obtain ⟨v, rfl, O⟩ := filter_cells F1
  exact ⟨b1, l1, c1, b2, l2, c2, v, y, z, by cases cs; simpa [boL] using e1, O, hy, hz⟩
theorem boL_one {b1 b2 : Option Addr} {l1 c1 l2 c2 y z : Nat} {n1 n2 : Int} {v : Int × Nat × Nat × Nat × Nat × Nat} : ∀ w ∈ (⟨boL b1 l1 c1 n1 b2 l2 c2 n2 v y z⟩ : Array Value).toList, w.oneCell' = true := all_one rfl
def GVoice.small (v : GVoice) : Prop := v.String.Loop.Samples.length ≤ 1048576 ∧ v.Pipe.small ∧ v.Bow.Neck.Samples.length ≤ 1048576 ∧ v.Bow.Bridge.Samples.length ≤ 1048576
section
variable {h : Heap} {q : Addr}
theorem l05CopyBow_c {x : GBow} (R : RdP rBow h q x) (h1 : x.Neck.Samples.length ≤ 1048576) (h2 : x.Bridge.Samples.length ≤ 1048576) : CALL prg f_spec_l05CopyBow #[.pointer (some q)] (fun u h' => NewR rBow h h' u x) h := by
  refine spec_l05CopyBow.call ((Mem.start h).alc fun g1 h3 x3 M => ?_)
  have A : ∀ {hh : Heap}, Ext h hh → RdP rBow hh q x := fun e => R.ext e
  refine (A M.ext).lda foc_Bow_Damp rfl fun a3 R3 => (A M.ext).oF fun r4 h4 => (A M.ext).oF fun r5 h5 => ?_
  obtain ⟨v1, e3, O1⟩ := filter_cells R3
  obtain rfl : a3 = ⟨flT v1⟩ := by cases a3; simpa using e3
  refine NewR.go (Mem.start h3) (l02Copy_c ((A M.ext).fst foc_Bow_Neck) h1) fun h7 a8 B8 N O8 s8 => as_a ?_
  obtain ⟨b, l, c, rfl, OS⟩ := ring_cells O8
  have P := A M.ext
  refine P.pinO (by decide) N.ext (P.pinO (by decide) N.ext (P.pinO (by decide) N.ext ?_))
  refine NewR.go N (l02Copy_c ((A (M.ext.trans N.ext)).foc foc_Bow_Bridge) h2) fun h8 a9 B9 N O9 s9 => as_a ?_
  obtain ⟨b', l', c', rfl, OT⟩ := ring_cells O9
  refine P.pinO (by decide) N.ext (P.pinO (by decide) N.ext (P.pinO (by decide) N.ext (siz rfl (siz rfl (siz rfl ?_)))))
  have M := (M.join N).cnt (W := (g1, T_impl_Bow, ⟨Z_impl_Bow⟩) :: (B8 ++ B9)) (fun p => by simp only [List.append_eq, cnt_app, cnt_cons, cnt_nil] at *; omega)
  refine M.sta0 (vs := ⟨boL b l c x.Neck.At b' l' c' x.Bridge.At v1 r4 r5⟩) .here rfl boL_one rfl .here fun h9 M => M.lda0 .here rfl ⟨_, B8 ++ B9, rfl, bow_ow (x := x) OS OT O1 h4 h5, M.drop⟩
theorem Bow_clone_c {cs : Array Value} {x : GBow} (R0 : rBow.rd h cs.toList x) (h1 : x.Neck.Samples.length ≤ 1048576) (h2 : x.Bridge.Samples.length ≤ 1048576) : CALL prg f_impl_Bow_clone #[.agg cs] (fun u h' => NewR rBow h h' u x) h := by
  obtain ⟨b1, l1, c1, b2, l2, c2, v, y, z, rfl, O1, hy, hz⟩ := bow_cells R0
  refine impl_Bow_clone.call ((Mem.start h).alc fun g1 h3 x3 M => M.alc fun g3 h4 x4 M => ?_)
  have R : RdP rBow h4 ⟨g1, 0, none⟩ x := M.rdp (.there .here) (rBow.ext M.ext R0)
  refine (R.fst foc_Bow_Neck).lda1 rfl fun a5 R5 => R.lda2 foc_Bow_Bridge rfl fun a6 R6 => NewR.go (Mem.start h4) (Ring_clone_c R5 h1) fun h7 a8 B8 N O8 s8 => as_a (R.pin2 (by decide) N.ext ?_)
  obtain ⟨b, l, c, rfl, OS⟩ := ring_cells O8
  refine NewR.go N (Ring_clone_c (rRing.ext N.ext R6) h2) fun h8 a9 B9 N O9 s9 => as_a ?_
  obtain ⟨b', l', c', rfl, OT⟩ := ring_cells O9
  have M := (M.join N).cnt (W := (g1, T_impl_Bow, ⟨boL b1 l1 c1 x.Neck.At b2 l2 c2 x.Bridge.At v y z⟩) :: (g3, T_impl_Bow, ⟨Z_impl_Bow⟩) :: (B8 ++ B9)) (fun p => by simp only [List.append_eq, cnt_app, cnt_cons, cnt_nil] at *; omega)
  refine M.sta .here rfl (all_one rfl) (by show 0 + 2 ≤ 12; decide) .here fun h9 M => ?_
  have M : Mem h h9 ((g1, T_impl_Bow, ⟨boL b l c x.Neck.At b2 l2 c2 x.Bridge.At v y z⟩) :: (g3, T_impl_Bow, ⟨Z_impl_Bow⟩) :: (B8 ++ B9)) := M
  refine M.sta .here rfl (all_one rfl) (by show 2 + 2 ≤ 12; decide) .here fun h10 M => ?_
  have M : Mem h h10 ((g1, T_impl_Bow, ⟨boL b l c x.Neck.At b' l' c' x.Bridge.At v y z⟩) :: (g3, T_impl_Bow, ⟨Z_impl_Bow⟩) :: (B8 ++ B9)) := M
  exact M.lda0 .here rfl (M.sta0 (.there .here) rfl boL_one rfl (.there .here) fun h11 M => M.lda0 (.there .here) rfl ⟨_, B8 ++ B9, rfl, bow_ow (x := x) OS OT O1 hy hz, M.drop.drop⟩)
end
end Go.Sx
/- One element appended to an own slice beside own data. -/
set_option linter.unusedVariables false
set_option linter.unusedSimpArgs false
namespace Go.Sx
open Go.Proofs
set_option maxRecDepth 100000
set_option maxHeartbeats 1000000

section
variable {α β : Type} {r : Rep α} {s : Rep β} {P : Program} {h0 h : Heap} {q : Addr} {F : Fr} {B L : List Blk} {d : α} {t e bytes ty : Nat} {b : Option Addr} {l c : Nat} {xs : List β} {K : Value → Heap → Prop}
/-- One element appended to an own slice beside own data. -/
theorem Pt.push {cs : Array Value} {x : β} (Pa : Pt r h0 h q F (B ++ L) d) (E : ElemT P t e s.sz bytes) (O : SlO e s B b l c xs) (Ox : s.ow [] cs.toList x) (hmax : l + 1 ≤ maxLen) (hbytes : (l + 1) * bytes ≤ 140737488355328)
    (H : ∀ b' c' h' B', SlO e s B' b' (l + 1) c' (xs ++ [x]) → Pt r h0 h' q F (B' ++ L) d → K (.slice b' (l + 1) c') h') :
    ALC cs e (fun g h => SEMV P (Builtin.append_ #[t, t] ty #[.slice b l c, .slice (some ⟨g, 0, none⟩) 1 1]) K h) h := by
  obtain ⟨e1, mid, BR, M, OR⟩ := Pa
  refine push_own (Bn := []) (L := (F.g, F.T, ⟨F.pre ++ (mid ++ F.post)⟩) :: (BR ++ L)) E O (M.cnt fun p => by simp only [cnt_app, cnt_cons, cnt_nil]; omega) Ox hmax hbytes fun b' c' h' B' O' M' => H b' c' h' B' O' ⟨e1, mid, BR, M'.cnt fun p => ?_, OR⟩
  simp only [cnt_app, cnt_cons, cnt_nil]; omega
end
end Go.Sx
/- Bows muted, played, pulled and moved on. -/
set_option linter.unusedVariables false
set_option linter.unusedSimpArgs false
namespace Go.Sx
open Go.Proofs
set_option maxRecDepth 100000
set_option maxHeartbeats 1000000

theorem okf_len {r : GRing} (h : r.okf = true) : r.Samples.length ≤ 1048576 := by
  have h1 : r.ok = true := by unfold GRing.okf at h; rw [Bool.and_eq_true] at h; exact h.1
  have k := at_lt h1
  omega
theorem bow_small {x : GBow} (h : x.ok = true) : x.Neck.Samples.length ≤ 1048576 ∧ x.Bridge.Samples.length ≤ 1048576 := by
  unfold GBow.ok at h
  simp only [Bool.and_eq_true] at h
  exact ⟨okf_len h.1.1.1, okf_len h.1.1.2⟩
/-- Steps one after the other. -/
def playG {α : Type} (st : α → Nat → α × Nat) (x : α) : List Nat → α × List Nat
  | [] => (x, [])
  | a :: l => ((playG st (st x a).1 l).1, (st x a).2 :: (playG st (st x a).1 l).2)
theorem playG_append {α : Type} (st : α → Nat → α × Nat) (x : α) : ∀ l m : List Nat, playG st x (l ++ m) = ((playG st (playG st x l).1 m).1, (playG st x l).2 ++ (playG st (playG st x l).1 m).2)
  | [], m => by simp [playG]
  | a :: l, m => by simp only [List.cons_append, playG]; rw [playG_append st _ l m]
theorem playG_step {α : Type} {st : α → Nat → α × Nat} {x : α} {xs : List Nat} {n : Nat} (hn : n < xs.length) : playG st x (xs.take (n + 1)) = ((st (playG st x (xs.take n)).1 xs[n]!).1, (playG st x (xs.take n)).2 ++ [(st (playG st x (xs.take n)).1 xs[n]!).2]) := by rw [take_snoc hn, playG_append]; rfl
/-- A thing, a slice of floats and a code, told by a call. -/
def TriG {α : Type} (r : Rep α) (h h' : Heap) (u : Value) (x : α) (ys : List Nat) (code : Int) : Prop := ∃ cs B b l c C, u = .tuple ⟨[.agg cs, .slice b l c, .int .i64 code]⟩ ∧ r.ow B cs.toList x ∧ SlO T_float32 (rF .f32) C b l c ys ∧ Mem h h' (B ++ C)
theorem TriG.go {α : Type} {r : Rep α} {P : Program} {f : FuncId} {args : Array Value} {x : α} {ys : List Nat} {code : Int} {hb h : Heap} {L : List Blk} {K : Value → Heap → Prop} (M : Mem hb h L) (k : CALL P f args (fun u h' => TriG r h h' u x ys code) h)
    (H : ∀ h' cs B b l c C, Mem hb h' ((B ++ C) ++ L) → r.ow B cs.toList x → SlO T_float32 (rF .f32) C b l c ys → K (.tuple ⟨[.agg cs, .slice b l c, .int .i64 code]⟩) h') : CALL P f args K h :=
  k.mono fun u h' ⟨cs, B, b, l, c, C, e, O, S, N⟩ => by subst e; exact H h' cs B b l c C (M.join N) O S
section
variable {h : Heap} {q : Addr} {x : GBow} {xs : List Nat} {b : Option Addr} {l c : Nat} {cs : Array Value}
theorem spec_MuteBow_c (R0 : rBow.rd h cs.toList x) (hok : x.ok = true) : CALL prg f_spec_MuteBow #[.agg cs] (fun u h' => PairR rBow h h' u x.mute 0) h := by
  refine spec_MuteBow.call ((Mem.start h).alc fun g1 h1 x1 M => M.alc fun g3 h2 x2 M => ?_)
  have R : RdP rBow h2 ⟨g1, 0, none⟩ x := M.rdp (.there .here) (rBow.ext M.ext R0)
  refine goM M (l05Bow_c R) fun h3 M => as_b ?_
  rw [hok]
  refine br_f rfl ?_
  have hs := bow_small hok
  have R : RdP rBow h3 ⟨g1, 0, none⟩ x := M.rdp (.there .here) (rBow.ext M.ext R0)
  refine NewR.go M (l05CopyBow_c R hs.1 hs.2) fun h4 c4 B4 M O4 s4 => as_a (M.alc fun g13 h5 x5 M => ?_)
  refine M.sta0 .here s4 (rBow.oone O4) rfl .here fun h6 M => ?_
  have P : Pt rBow h h6 ⟨g13, 0, none⟩ ⟨g13, T_impl_Bow, [], []⟩ [(g3, T_impl_Bow, ⟨Z_impl_Bow⟩), (g1, T_impl_Bow, cs)] x := Pt.new O4 M
  have R : RdP rBow h6 ⟨g1, 0, none⟩ x := P.mem.rdp (.there .here) (rBow.ext P.ext R0)
  refine NewR.pt P (l05Muted_c (R.fst foc_Bow_Neck) hs.1) fun h7 c7 B7 P O7 s7 => as_a (P.sts0 foc_Bow_Neck rfl O7 fun h8 P => ?_)
  have R : RdP rBow h8 ⟨g1, 0, none⟩ x := P.mem.rdp (.there .here) (rBow.ext P.ext R0)
  have Rb := R.foc foc_Bow_Bridge
  rw [add_g] at Rb
  refine NewR.pt P (l05Muted_c Rb hs.2) fun h9 c9 B9 P O9 s9 => as_a (P.stsg foc_Bow_Bridge rfl O9 fun h10 P => ?_)
  have fs : Foc rBow (rArr 2 (rF .f32)) 8 (fun a => a.Damp.S) (fun a b => { a with Damp := { a.Damp with S := b } }) := (foc_Bow_Damp.trans foc_Filter_S).at rfl
  have st := Pt.stF2 (K := fun h24 => LDA 12 h24 ⟨g13, 0, none⟩ fun a25 => STA 12 h24 ⟨g3, 0, none⟩ a25 fun h26 => LDA 12 h26 ⟨g3, 0, none⟩ fun a27 => PairR rBow h h26 (.tuple ⟨[.agg a27, .int .i64 (0 : Int)]⟩) x.mute 0) P fs fw0 fw0 fun h11 P => ?_
  · rwa [add_g] at st
  obtain ⟨cs, B, M, O⟩ := P.out
  refine M.lda0 .here (osz O rfl) ?_
  have M := M.cnt (W := (g3, T_impl_Bow, ⟨Z_impl_Bow⟩) :: B) (fun p => by simp only [cnt_app, cnt_cons, cnt_nil] at *; omega)
  exact M.sta0 .here (osz O rfl) (rBow.oone O) rfl .here fun h3 M => M.lda0 .here (osz O rfl) ⟨_, B, rfl, O, M.drop⟩
theorem playB_ok {x : GBow} (h : x.ok = true) (l : List Nat) : (playG GBow.step x l).1.ok = true := by
  induction l generalizing x with
  | nil => exact h
  | cons a l ih => exact ih (bow_step_ok h)
theorem impl_PlayBow_c (R0 : rBow.rd h cs.toList x) (S0 : SlR (rF .f32) h b l c xs) (hok : x.ok = true) (hxs : xs.length ≤ 4096) : CALL prg f_impl_PlayBow #[.agg cs, .slice b l c] (fun u h' => TriG rBow h h' u (playG GBow.step x xs).1 (playG GBow.step x xs).2 0) h := by
  have hl := S0.len
  have hm : (4097 : Nat) ≤ maxLen := by decide
  refine impl_PlayBow.call ((Mem.start h).alc fun g1 h1 x1 M => M.alc fun g3 h2 x2 M => M.lda0 (.there .here) (rsz R0 rfl) ?_)
  refine goM M (ValidBow_c (rBow.ext M.ext R0)) fun h3 M => as_b ?_
  rw [hok]
  refine br_f rfl (brd (fun hc => by omega) fun hc => ?_)
  have hs := bow_small hok
  refine M.lda0 (.there .here) (rsz R0 rfl) (NewR.go M (Bow_clone_c (rBow.ext M.ext R0) hs.1 hs.2) fun h4 c4 B4 M O4 s4 => as_a ?_)
  have M := M.cnt (W := (g1, T_impl_Bow, cs) :: (B4 ++ [(g3, T_impl_Bow, ⟨Z_impl_Bow⟩)])) (fun p => by simp only [cnt_app, cnt_cons, cnt_nil] at *; omega)
  refine M.sta0 .here s4 (rBow.oone O4) (rsz R0 rfl) .here fun h6 M => ?_
  have P : Pt rBow h h6 ⟨g1, 0, none⟩ ⟨g1, T_impl_Bow, [], []⟩ [(g3, T_impl_Bow, ⟨Z_impl_Bow⟩)] x := Pt.new O4 M
  refine loop (fun y hh => ∃ (n : Nat) (b' : Option Addr) (c' : Nat) (B : List Blk), y = (⟨g1, 0, none⟩, ⟨g3, 0, none⟩, b', n, c', b, l, c, (l : Int), (n : Int)) ∧ n ≤ l ∧ SlO T_float32 (rF .f32) B b' n c' (playG GBow.step x (xs.take n)).2 ∧
    Pt rBow h hh ⟨g1, 0, none⟩ ⟨g1, T_impl_Bow, [], []⟩ (B ++ [(g3, T_impl_Bow, ⟨Z_impl_Bow⟩)]) (playG GBow.step x (xs.take n)).1) (fun y => (l - y.2.2.2.2.2.2.2.2.2).toNat)
    ⟨0, _, _, [], rfl, by omega, SlO.nil, P⟩ ?_
  rintro y hh ⟨n, b', c', B, rfl, hn, O, P⟩
  refine brd (fun hc => ?_) fun hc => ?_
  · have rg := bow_rings (playB_ok hok (xs.take n))
    refine (S0.ext P.ext).idx (by decide) (by omega) (by omega) fun p Rp => Rp.oF1 fun w hw => ((Bow_step_c P rg.1 rg.2 hw).mono ?_)
    rintro _ h8 ⟨⟨y, rfl, hy⟩, P⟩
    refine as_f (Pt.push P E_sl_float32 O ⟨rfl, _, rfl, hy⟩ (by omega) (by omega) fun b2 c2 h9 B2 O2 P2 => as_l ⟨⟨n + 1, b2, c2, B2, by rw [wrap64_succ (by omega)], by omega, ?_, ?_⟩, by rw [wrap64_succ (by omega)]; show _ < _; simp; omega⟩)
    · rw [playG_step (by omega)]; exact O2
    · rw [playG_step (by omega)]; exact P2
  obtain rfl : n = l := by omega
  rw [← hl, List.take_length] at O P
  obtain ⟨cs, BR, M, OR⟩ := P.out
  refine M.lda0 .here (osz OR rfl) ?_
  have M := M.cnt (W := (g3, T_impl_Bow, ⟨Z_impl_Bow⟩) :: (BR ++ B)) (fun p => by simp only [cnt_app, cnt_cons, cnt_nil] at *; omega)
  refine M.sta0 .here (osz OR rfl) (rBow.oone OR) rfl .here fun h3 M => M.lda0 .here (osz OR rfl) ?_
  rw [← hl]
  exact ⟨_, BR, _, _, _, B, rfl, OR, O, M.drop⟩
theorem impl_IsSilentBow_c (R0 : rBow.rd h cs.toList x) (hok : x.ok = true) : CALL prg f_impl_IsSilentBow #[.agg cs] (fun u h' => u = .tuple ⟨[.bool x.silent, .int .i64 (0 : Int)]⟩ ∧ Ext h h') h := by
  have k : x.silent = (x.Neck.zero && x.Bridge.zero && x.Damp.still) := rfl
  have rg := bow_rings hok
  refine impl_IsSilentBow.call (alcR R0 fun g h1 x1 R => R.lda1 rfl fun c1 R1 => goX (ValidBow_c R1) fun h2 x2 => as_b ?_)
  rw [hok]
  refine br_f rfl (((R.ext x2).fst foc_Bow_Neck).lda1 rfl fun c2 R2 => goX (isQuiet_c R2 rg.1) fun h3 x3 => as_b (br (fun b1 => ?_) fun b1 => ⟨by rw [k, b1]; rfl, x1.trans (x2.trans x3)⟩))
  refine (R.ext (x2.trans x3)).lda2 foc_Bow_Bridge rfl fun c3 R3 => goX (isQuiet_c R3 rg.2) fun h4 x4 => as_b (br (fun b2 => ?_) fun b2 => ⟨by rw [k, b1, b2]; rfl, x1.trans ((x2.trans x3).trans x4)⟩)
  exact (R.ext ((x2.trans x3).trans x4)).lda2 foc_Bow_Damp rfl fun c4 R4 => goX (Filter_isStill_c R4) fun h5 x5 => as_b ⟨by rw [k, b1, b2]; rfl, x1.trans (((x2.trans x3).trans x4).trans x5)⟩
/-- A thing, a float and a code, told by a call. -/
def MidG {α : Type} (r : Rep α) (h h' : Heap) (u : Value) (x : α) (y : Nat) (code : Int) : Prop := ∃ cs B w, u = .tuple ⟨[.agg cs, .float .f32 w, .int .i64 code]⟩ ∧ r.ow B cs.toList x ∧ FW .f32 w y ∧ Mem h h' B
theorem MidG.go {α : Type} {r : Rep α} {P : Program} {f : FuncId} {args : Array Value} {x : α} {y : Nat} {code : Int} {hb h : Heap} {L : List Blk} {K : Value → Heap → Prop} (M : Mem hb h L) (k : CALL P f args (fun u h' => MidG r h h' u x y code) h)
    (H : ∀ h' cs B w, Mem hb h' (B ++ L) → r.ow B cs.toList x → FW .f32 w y → K (.tuple ⟨[.agg cs, .float .f32 w, .int .i64 code]⟩) h') : CALL P f args K h :=
  k.mono fun u h' ⟨cs, B, w, e, O, S, N⟩ => by subst e; exact H h' cs B w (M.join N) O S
end
end Go.Sx
