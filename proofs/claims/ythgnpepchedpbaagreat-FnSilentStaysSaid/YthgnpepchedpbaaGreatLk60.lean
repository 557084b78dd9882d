/- Players that run, kept so by what happens and by a step. -/
import Derived.Test.YthgnpepchedpbaaGreatLk57
import Derived.Test.YthgnpepchedpbaaGreatLk45
import Derived.Test.YthgnpepchedpbaaGreatLp7
import Derived.Test.YthgnpepchedpbaaGreatLk7
set_option linter.unusedVariables false
set_option linter.unusedSimpArgs false
namespace Go.Sx
open Go.Proofs
set_option maxRecDepth 100000
set_option maxHeartbeats 1000000

theorem now1_iff {p : GPlayer} (h : p.now1 = true) : p.Next < p.Score.Events.length ∧ p.Score.Events[p.Next.toNat]!.At = p.Now := by
  unfold GPlayer.now1 at h
  rw [Bool.and_eq_true, decide_eq_true_iff, beq_iff_eq] at h
  exact h
/-- No voice has the note of a start that is still to come. -/
theorem none_has {p : GPlayer} (R : p.Runs) (h : p.Next < p.Score.Events.length) (hs : isSt p.Score.Events[p.Next.toNat]! = true) {v : GVoice} (hv : v ∈ p.Voices) : ¬ v.Note = p.Score.Events[p.Next.toNat]!.Note := fun e => by
  have nx := R.nx
  have G := score_ev R.s
  have hn := (G.note p.Next.toNat (by omega)).1
  rcases R.v v hv with h1 | ⟨j, h1, h2, h3, h4, _⟩
  · omega
  · have := G.st1 j p.Next.toNat h1 (by omega) h3 hs (by rw [h4, e])
    omega
theorem gone_same (s : GScore) (v : GVoice) : (goneV s v).Note = v.Note ∧ (goneV s v).Instrument = v.Instrument ∧ s.kind (goneV s v) = s.kind v := by
  unfold goneV
  split <;> exact ⟨rfl, rfl, rfl⟩
theorem gone_runs {s : GScore} {v : GVoice} {k : Int} (h : bodyRuns k v) : bodyRuns k (goneV s v) := by
  unfold goneV
  split <;> exact h
theorem VoiceRuns.mono {s : GScore} {n m : Int} {v : GVoice} (h : VoiceRuns s n v) (hm : n ≤ m) : VoiceRuns s m v := by
  obtain ⟨j, h1, h2, r⟩ := h
  exact ⟨j, h1, by omega, r⟩
theorem next_runs {p : GPlayer} (R : p.Runs) (h : p.Next < p.Score.Events.length) : p.next.Runs := by
  have nx := R.nx
  have sk := R.sk
  have hl : p.Next.toNat < p.Score.Events.length := by omega
  have G := score_ev R.s
  obtain ⟨e, he⟩ : ∃ e, e = p.Score.Events[p.Next.toNat]! := ⟨_, rfl⟩
  unfold GPlayer.next
  rw [← he]
  by_cases hk : e.Kind = 2
  · have hs : isSt e = true := by unfold isSt; rw [hk]; rfl
    have no : ∀ {v : GVoice}, v ∈ p.Voices → ¬ v.Note = e.Note := fun hv => by rw [he]; exact none_has R h (by rw [← he]; exact hs) hv
    have hn : 0 ≤ e.Note := by rw [he]; exact (G.note _ hl).1
    rw [happen_start hk]
    cases hv : voiceOf p.Score e with
    | none => exact ⟨R.s, R.n1, R.n6, ⟨by show 0 ≤ p.Next + 1; omega, by show p.Next + 1 ≤ (p.Score.Events.length : Int); omega⟩, ⟨by show 0 ≤ p.Skipped + 1; omega, by show p.Skipped + 1 ≤ 64 + (p.Next + 1); omega⟩, fun v hv => (R.v v hv).imp id fun V => V.mono (by show p.Next ≤ p.Next + 1; omega), R.d⟩
    | some w =>
      obtain ⟨w1, w2, w3⟩ := voice_new hv
      have hp := placeOf_lt R.n1
      refine ⟨R.s, by show 1 ≤ (p.Voices.set _ w).length; rw [List.length_set]; exact R.n1, by show (p.Voices.set _ w).length ≤ 6; rw [List.length_set]; exact R.n6, ⟨by show 0 ≤ p.Next + 1; omega, by show p.Next + 1 ≤ (p.Score.Events.length : Int); omega⟩, ⟨sk.1, by show p.Skipped ≤ 64 + (p.Next + 1); omega⟩, fun v hv => ?_, fun i j hij hj hnn => ?_⟩
      · rcases List.mem_or_eq_of_mem_set hv with hv | rfl
        · exact (R.v v hv).imp id fun V => V.mono (by show p.Next ≤ p.Next + 1; omega)
        · exact .inr ⟨p.Next.toNat, hl, by show ((p.Next.toNat : Nat) : Int) < p.Next + 1; omega, by show isSt p.Score.Events[p.Next.toNat]! = true; rw [← he]; exact hs, by show p.Score.Events[p.Next.toNat]!.Note = _; rw [← he, w1], by show p.Score.Events[p.Next.toNat]!.Instrument = _; rw [← he, w2], w3⟩
      · have hj : j < (p.Voices.set (placeOf p.Voices) w).length := hj
        rw [List.length_set] at hj
        have hnn : (p.Voices.set (placeOf p.Voices) w)[i]!.Note = (p.Voices.set (placeOf p.Voices) w)[j]!.Note := hnn
        show (p.Voices.set (placeOf p.Voices) w)[i]!.Note = -1
        rw [get_set (by omega), get_set (by omega)] at hnn
        rw [get_set (by omega)]
        by_cases e1 : placeOf p.Voices = i
        · rw [if_pos e1] at hnn ⊢
          rw [if_neg (by omega)] at hnn
          exact absurd (by rw [← hnn, w1]) (no (mem_get hj))
        · rw [if_neg e1] at hnn ⊢
          by_cases e2 : placeOf p.Voices = j
          · rw [if_pos e2] at hnn
            exact absurd (by rw [hnn, w1]) (no (mem_get (show i < p.Voices.length by omega)))
          · rw [if_neg e2] at hnn
            exact R.d i j hij hj hnn
  · rw [happen_stop hk]
    have hnote : ∀ v, (stopV p.Score e.Note v).Note = v.Note := fun v => by unfold stopV; split <;> first | exact (gone_same _ v).1 | rfl
    refine ⟨R.s, by show 1 ≤ (p.Voices.map _).length; rw [List.length_map]; exact R.n1, by show (p.Voices.map _).length ≤ 6; rw [List.length_map]; exact R.n6, ⟨by show 0 ≤ p.Next + 1; omega, by show p.Next + 1 ≤ (p.Score.Events.length : Int); omega⟩, ⟨sk.1, by show p.Skipped ≤ 64 + (p.Next + 1); omega⟩, fun v hv => ?_, fun i j hij hj hnn => ?_⟩
    · obtain ⟨u, hu, rfl⟩ := List.mem_map.1 hv
      rw [hnote]
      refine (R.v u hu).imp id fun V => ?_
      have V := V.mono (show p.Next ≤ p.Next + 1 by omega)
      unfold stopV
      split
      · obtain ⟨j, h1, h2, h3, h4, h5, h6⟩ := V
        obtain ⟨g1, g2, g3⟩ := gone_same p.Score u
        exact ⟨j, h1, h2, h3, by rw [g1]; exact h4, by rw [g2]; exact h5, by show bodyRuns (p.Score.kind (goneV p.Score u)) _; rw [g3]; exact gone_runs h6⟩
      · exact V
    · have hj : j < (p.Voices.map (stopV p.Score e.Note)).length := hj
      rw [List.length_map] at hj
      have hnn : (p.Voices.map (stopV p.Score e.Note))[i]!.Note = (p.Voices.map (stopV p.Score e.Note))[j]!.Note := hnn
      show (p.Voices.map (stopV p.Score e.Note))[i]!.Note = -1
      rw [map_get (by omega), map_get (by omega), hnote, hnote] at hnn
      rw [map_get (by omega), hnote]
      exact R.d i j hij hj hnn
theorem next_score (p : GPlayer) : p.next.Score = p.Score ∧ p.next.Now = p.Now ∧ p.next.Next = p.Next + 1 := by
  unfold GPlayer.next GPlayer.happen
  split
  · cases voiceOf p.Score _ <;> exact ⟨rfl, rfl, rfl⟩
  · exact ⟨rfl, rfl, rfl⟩
/-- The loop over events, from a player on. -/
theorem run_step {p : GPlayer} (R : p.Runs) (h : p.now1 = true) : GPlayer.run (p.Score.Events.length - p.Next.toNat) p = GPlayer.run (p.next.Score.Events.length - p.next.Next.toNat) p.next := by
  have nx := R.nx
  obtain ⟨h1, h2⟩ := now1_iff h
  obtain ⟨g1, g2, g3⟩ := next_score p
  rw [g1, g3, show p.Score.Events.length - p.Next.toNat = (p.Score.Events.length - (p.Next + 1).toNat) + 1 by omega]
  conv => lhs; unfold GPlayer.run
  rw [if_pos h]
theorem run_done {p : GPlayer} (h : p.now1 = false) : ∀ k, GPlayer.run k p = p
  | 0 => rfl
  | k + 1 => by unfold GPlayer.run; rw [h, if_neg (by decide)]
end Go.Sx
/- A player's step: the rule's. -/
set_option linter.unusedVariables false
set_option linter.unusedSimpArgs false
namespace Go.Sx
open Go.Proofs
set_option maxRecDepth 100000
set_option maxHeartbeats 2000000

section
variable {h0 h : Heap} {q : Addr} {F : Fr} {L : List Blk} {p : GPlayer}
/-- A player within the loop over events. -/
structure RunsTo (p0 p : GPlayer) : Prop where
  r : p.Runs
  n : p.Now = p0.Now
  e : GPlayer.run (p.Score.Events.length - p.Next.toNat) p = GPlayer.run (p0.Score.Events.length - p0.Next.toNat) p0
  s : p.Score = p0.Score
theorem RunsTo.next {p0 p : GPlayer} (R : RunsTo p0 p) (h : p.now1 = true) : RunsTo p0 p.next := by
  obtain ⟨g1, g2, g3⟩ := next_score p
  exact ⟨next_runs R.r (now1_iff h).1, by rw [g2, R.n], by rw [← run_step R.r h, R.e], by rw [g1, R.s]⟩
theorem RunsTo.done {p0 p : GPlayer} (R : RunsTo p0 p) (h : p.now1 = false) : p.sounded = p0.step := by
  unfold GPlayer.step
  rw [← R.e, run_done h]
end
end Go.Sx
/- Voices copied. -/
set_option linter.unusedVariables false
set_option linter.unusedSimpArgs false
namespace Go.Sx
open Go.Proofs
set_option maxRecDepth 100000
set_option maxHeartbeats 2000000

/-- A bow's cells. -/
def boL (b1 : Option Addr) (l1 c1 : Nat) (n1 : Int) (b2 : Option Addr) (l2 c2 : Nat) (n2 : Int) (v : Int × Nat × Nat × Nat × Nat × Nat) (y z : Nat) : List Value :=
  [.slice b1 l1 c1, .int .i64 n1] ++ ([.slice b2 l2 c2, .int .i64 n2] ++ (flT v ++ [.float .f32 y, .float .f32 z]))
theorem bow_cells {h : Heap} {cs : Array Value} {x : GBow} (R : rBow.rd h cs.toList x) : ∃ b1 l1 c1 b2 l2 c2 v y z, cs = ⟨boL b1 l1 c1 x.Neck.At b2 l2 c2 x.Bridge.At v y z⟩ ∧ rFilter.ow [] (flT v) x.Damp ∧ FW .f32 y x.Slope ∧ FW .f32 z x.Loss := by
  obtain ⟨w1, r1, e1, ⟨u1, u2, rfl, ⟨b1, l1, c1, rfl, S1⟩, hat1⟩, w2, r2, rfl, ⟨u3, u4, rfl, ⟨b2, l2, c2, rfl, S2⟩, hat2⟩, w3, r3, rfl, F1, w4, w5, rfl, ⟨y, rfl, hy⟩, ⟨z, rfl, hz⟩⟩ := R
  have hat1 : u2 = [.int .i64 x.Neck.At] := hat1
  have hat2 : u4 = [.int .i64 x.Bridge.At] := hat2
  subst hat1 hat2
  obtain ⟨v, rfl, O⟩ := filter_cells F1
  exact ⟨b1, l1, c1, b2, l2, c2, v, y, z, by cases cs; simpa [boL] using e1, O, hy, hz⟩
theorem boL_one {b1 b2 : Option Addr} {l1 c1 l2 c2 y z : Nat} {n1 n2 : Int} {v : Int × Nat × Nat × Nat × Nat × Nat} : ∀ w ∈ (⟨boL b1 l1 c1 n1 b2 l2 c2 n2 v y z⟩ : Array Value).toList, w.oneCell' = true := all_one rfl
def GVoice.small (v : GVoice) : Prop := v.String.Loop.Samples.length ≤ 1048576 ∧ v.Pipe.small ∧ v.Bow.Neck.Samples.length ≤ 1048576 ∧ v.Bow.Bridge.Samples.length ≤ 1048576
section
variable {h : Heap} {q : Addr}
theorem l05CopyBow_c {x : GBow} (R : RdP rBow h q x) (h1 : x.Neck.Samples.length ≤ 1048576) (h2 : x.Bridge.Samples.length ≤ 1048576) : CALL prg f_spec_l05CopyBow #[.pointer (some q)] (fun u h' => NewR rBow h h' u x) h := by
  refine spec_l05CopyBow.call ((Mem.start h).alc fun g1 h3 x3 M => ?_)
  have A : ∀ {hh : Heap}, Ext h hh → RdP rBow hh q x := fun e => R.ext e
  refine (A M.ext).lda foc_Bow_Damp rfl fun a3 R3 => (A M.ext).oF fun r4 h4 => (A M.ext).oF fun r5 h5 => ?_
  obtain ⟨v1, e3, O1⟩ := filter_cells R3
  obtain rfl : a3 = ⟨flT v1⟩ := by cases a3; simpa using e3
  refine NewR.go (Mem.start h3) (l02Copy_c ((A M.ext).fst foc_Bow_Neck) h1) fun h7 a8 B8 N O8 s8 => as_a ?_
  obtain ⟨b, l, c, rfl, OS⟩ := ring_cells O8
  have P := A M.ext
  refine P.pinO (by decide) N.ext (P.pinO (by decide) N.ext (P.pinO (by decide) N.ext ?_))
  refine NewR.go N (l02Copy_c ((A (M.ext.trans N.ext)).foc foc_Bow_Bridge) h2) fun h8 a9 B9 N O9 s9 => as_a ?_
  obtain ⟨b', l', c', rfl, OT⟩ := ring_cells O9
  refine P.pinO (by decide) N.ext (P.pinO (by decide) N.ext (P.pinO (by decide) N.ext (siz rfl (siz rfl (siz rfl ?_)))))
  have M := (M.join N).cnt (W := (g1, T_impl_Bow, ⟨Z_impl_Bow⟩) :: (B8 ++ B9)) (fun p => by simp only [List.append_eq, cnt_app, cnt_cons, cnt_nil] at *; omega)
  refine M.sta0 (vs := ⟨boL b l c x.Neck.At b' l' c' x.Bridge.At v1 r4 r5⟩) .here rfl boL_one rfl .here fun h9 M => M.lda0 .here rfl ⟨_, B8 ++ B9, rfl, bow_ow (x := x) OS OT O1 h4 h5, M.drop⟩
theorem Bow_clone_c {cs : Array Value} {x : GBow} (R0 : rBow.rd h cs.toList x) (h1 : x.Neck.Samples.length ≤ 1048576) (h2 : x.Bridge.Samples.length ≤ 1048576) : CALL prg f_impl_Bow_clone #[.agg cs] (fun u h' => NewR rBow h h' u x) h := by
  obtain ⟨b1, l1, c1, b2, l2, c2, v, y, z, rfl, O1, hy, hz⟩ := bow_cells R0
  refine impl_Bow_clone.call ((Mem.start h).alc fun g1 h3 x3 M => M.alc fun g3 h4 x4 M => ?_)
  have R : RdP rBow h4 ⟨g1, 0, none⟩ x := M.rdp (.there .here) (rBow.ext M.ext R0)
  refine (R.fst foc_Bow_Neck).lda1 rfl fun a5 R5 => R.lda2 foc_Bow_Bridge rfl fun a6 R6 => NewR.go (Mem.start h4) (Ring_clone_c R5 h1) fun h7 a8 B8 N O8 s8 => as_a (R.pin2 (by decide) N.ext ?_)
  obtain ⟨b, l, c, rfl, OS⟩ := ring_cells O8
  refine NewR.go N (Ring_clone_c (rRing.ext N.ext R6) h2) fun h8 a9 B9 N O9 s9 => as_a ?_
  obtain ⟨b', l', c', rfl, OT⟩ := ring_cells O9
  have M := (M.join N).cnt (W := (g1, T_impl_Bow, ⟨boL b1 l1 c1 x.Neck.At b2 l2 c2 x.Bridge.At v y z⟩) :: (g3, T_impl_Bow, ⟨Z_impl_Bow⟩) :: (B8 ++ B9)) (fun p => by simp only [List.append_eq, cnt_app, cnt_cons, cnt_nil] at *; omega)
  refine M.sta .here rfl (all_one rfl) (by show 0 + 2 ≤ 12; decide) .here fun h9 M => ?_
  have M : Mem h h9 ((g1, T_impl_Bow, ⟨boL b l c x.Neck.At b2 l2 c2 x.Bridge.At v y z⟩) :: (g3, T_impl_Bow, ⟨Z_impl_Bow⟩) :: (B8 ++ B9)) := M
  refine M.sta .here rfl (all_one rfl) (by show 2 + 2 ≤ 12; decide) .here fun h10 M => ?_
  have M : Mem h h10 ((g1, T_impl_Bow, ⟨boL b l c x.Neck.At b' l' c' x.Bridge.At v y z⟩) :: (g3, T_impl_Bow, ⟨Z_impl_Bow⟩) :: (B8 ++ B9)) := M
  exact M.lda0 .here rfl (M.sta0 (.there .here) rfl boL_one rfl (.there .here) fun h11 M => M.lda0 (.there .here) rfl ⟨_, B8 ++ B9, rfl, bow_ow (x := x) OS OT O1 hy hz, M.drop.drop⟩)
end
end Go.Sx
/- One element appended to an own slice beside own data. -/
set_option linter.unusedVariables false
set_option linter.unusedSimpArgs false
namespace Go.Sx
open Go.Proofs
set_option maxRecDepth 100000
set_option maxHeartbeats 1000000

section
variable {α β : Type} {r : Rep α} {s : Rep β} {P : Program} {h0 h : Heap} {q : Addr} {F : Fr} {B L : List Blk} {d : α} {t e bytes ty : Nat} {b : Option Addr} {l c : Nat} {xs : List β} {K : Value → Heap → Prop}
/-- One element appended to an own slice beside own data. -/
theorem Pt.push {cs : Array Value} {x : β} (Pa : Pt r h0 h q F (B ++ L) d) (E : ElemT P t e s.sz bytes) (O : SlO e s B b l c xs) (Ox : s.ow [] cs.toList x) (hmax : l + 1 ≤ maxLen) (hbytes : (l + 1) * bytes ≤ 140737488355328)
    (H : ∀ b' c' h' B', SlO e s B' b' (l + 1) c' (xs ++ [x]) → Pt r h0 h' q F (B' ++ L) d → K (.slice b' (l + 1) c') h') :
    ALC cs e (fun g h => SEMV P (Builtin.append_ #[t, t] ty #[.slice b l c, .slice (some ⟨g, 0, none⟩) 1 1]) K h) h := by
  obtain ⟨e1, mid, BR, M, OR⟩ := Pa
  refine push_own (Bn := []) (L := (F.g, F.T, ⟨F.pre ++ (mid ++ F.post)⟩) :: (BR ++ L)) E O (M.cnt fun p => by simp only [cnt_app, cnt_cons, cnt_nil]; omega) Ox hmax hbytes fun b' c' h' B' O' M' => H b' c' h' B' O' ⟨e1, mid, BR, M'.cnt fun p => ?_, OR⟩
  simp only [cnt_app, cnt_cons, cnt_nil]; omega
end
end Go.Sx
