/- Players that run: what a step asks for, and that it leaves it so. -/
import Derived.Test.YtgbjfohgmpmjoaaGreatDoorLq3
import Derived.Test.YtgbjfohgmpmjoaaGreatDoorLr2
import Derived.Test.YtgbjfohgmpmjoaaGreatDoorLs1
import Derived.Test.YtgbjfohgmpmjoaaGreatDoorLk46
import Derived.Test.YtgbjfohgmpmjoaaGreatDoorTab
import Derived.Test.YtgbjfohgmpmjoaaGreatDoorK9
import Derived.Test.YtgbjfohgmpmjoaaGreatDoorLm7
import Derived.Test.YtgbjfohgmpmjoaaGreatDoorLg
import Derived.Test.YtgbjfohgmpmjoaaGreatDoorLp4
import Derived.Test.YtgbjfohgmpmjoaaGreatDoorLp7
import Derived.Test.YtgbjfohgmpmjoaaGreatDoorTabE
import Derived.Test.YtgbjfohgmpmjoaaGreatDoorLk21
set_option linter.unusedVariables false
set_option linter.unusedSimpArgs false
namespace Go.Sx
open Go.Proofs
set_option maxRecDepth 100000
set_option maxHeartbeats 1000000

def newV (s : GScore) (v : GVoice) : GVoice := if v.Note = -1 then v else if (v.Gone && (v.sound (s.kind v)).1.quiet (s.kind v)) = true then freeV else (v.sound (s.kind v)).1
def addV (s : GScore) (a : Nat) (v : GVoice) : Nat := if v.Note = -1 then a else fadd .f32 a (v.sound (s.kind v)).2
def GPlayer.sounded (p : GPlayer) : GPlayer × Nat := ({ p with Voices := p.Voices.map (newV p.Score), Now := p.Now + 1 }, clamp (p.Voices.foldl (addV p.Score) 0) one32)
def GPlayer.now1 (p : GPlayer) : Bool := decide (p.Next < p.Score.Events.length) && (p.Score.Events[p.Next.toNat]!.At == p.Now)
def GPlayer.next (p : GPlayer) : GPlayer := { p.happen p.Score.Events[p.Next.toNat]! with Next := p.Next + 1 }
def GPlayer.run : Nat → GPlayer → GPlayer
  | 0, p => p
  | k + 1, p => if p.now1 = true then GPlayer.run k p.next else p
def GPlayer.step (p : GPlayer) : GPlayer × Nat := (GPlayer.run (p.Score.Events.length - p.Next.toNat) p).sounded
/-- A voice of a note that has started, its body in order. -/
def VoiceRuns (s : GScore) (next : Int) (v : GVoice) : Prop := ∃ j : Nat, j < s.Events.length ∧ (j : Int) < next ∧ isSt s.Events[j]! = true ∧ s.Events[j]!.Note = v.Note ∧ s.Events[j]!.Instrument = v.Instrument ∧ bodyRuns (s.kind v) v
structure GPlayer.Runs (p : GPlayer) : Prop where
  s : p.Score.ok = true
  n1 : 1 ≤ p.Voices.length
  n6 : p.Voices.length ≤ 6
  nx : 0 ≤ p.Next ∧ p.Next ≤ p.Score.Events.length
  sk : 0 ≤ p.Skipped ∧ p.Skipped ≤ 64 + p.Next
  v : ∀ v ∈ p.Voices, v.Note = -1 ∨ VoiceRuns p.Score p.Next v
  d : ∀ i j, i < j → j < p.Voices.length → p.Voices[i]!.Note = p.Voices[j]!.Note → p.Voices[i]!.Note = -1
theorem VoiceRuns.note {s : GScore} {n : Int} {v : GVoice} (h : s.ok = true) (V : VoiceRuns s n v) : 0 ≤ v.Note := by
  obtain ⟨j, h1, h2, h3, h4, _⟩ := V
  rw [← h4]; exact ((score_ev h).note j h1).1
theorem get_set {α : Type} [Inhabited α] {l : List α} {k i : Nat} {x : α} (hi : i < l.length) : (l.set k x)[i]! = if k = i then x else l[i]! := by
  rw [getElem!_pos _ i (by rw [List.length_set]; exact hi), List.getElem_set, getElem!_pos l i hi]
/-- A new voice. -/
theorem newString_ok {x : GString} {pl f : Nat} (h : (x.pluck pl f).2 = 0) : (x.pluck pl f).1.Loop.ok = true := by
  unfold GString.pluck at *
  split at h
  · next hx =>
    rw [if_pos hx]
    split at h
    · next hp =>
      rw [if_pos hp]
      split at h
      · next hf =>
        rw [if_pos hf]
        have h1 : x.Loop.ok = true := by
          unfold GString.ok at hx
          simp only [Bool.and_eq_true] at hx
          exact hx.1.1.1
        unfold GRing.ok GRing.len at *
        show (inR (((x.plucked pl f).Loop.Samples.length : Nat) : Int) 1 1024 && inR (x.plucked pl f).Loop.At 0 ((((x.plucked pl f).Loop.Samples.length : Nat) : Int) - 1)) = true
        unfold GString.plucked
        dsimp only
        rw [chg_len, chg_at]
        exact h1
      · cases h
    · cases h
  · cases h
theorem newPipe_runs {n : Int} {op : Bool} {k l : Nat} (h : (newPipe n op k l).2 = 0) : (newPipe n op k l).1.Runs := by
  unfold newPipe pipeIf at *
  split at h
  · next hx =>
    rw [if_pos hx]
    rw [Bool.and_eq_true] at hx
    have hn := hx.2
    simp only [inR, Bool.and_eq_true, decide_eq_true_eq] at hn
    have hq : (quietR n).ok = true := by
      have e : (((quietR n).Samples.length : Nat) : Int) = n := by show (((List.replicate n.toNat 0).length : Nat) : Int) = n; rw [List.length_replicate]; omega
      unfold GRing.ok GRing.len inR
      rw [e]
      show (_ && (decide ((0 : Int) ≤ 0) && _)) = true
      simp only [Bool.and_eq_true, decide_eq_true_eq]
      exact ⟨⟨by omega, by omega⟩, by omega, by show (0 : Int) ≤ n - 1; omega⟩
    have hm : ∀ r ∈ [quietR n], r.ok = true := fun r hr => by
      rw [List.mem_singleton] at hr
      rw [hr]; exact hq
    exact ⟨Nat.le_refl _, by show 1 ≤ 3; omega, rfl, rfl, hm, hm⟩
  · cases h
theorem zeros_fin (n : Nat) : allFin (List.replicate n 0) = true := by
  unfold allFin
  rw [List.all_eq_true]
  intro x hx
  rw [List.eq_of_mem_replicate hx]
  exact fin_read rd_c0
theorem ring_okf {n : Int} (h1 : 1 ≤ n) (h2 : n ≤ 1024) : (⟨List.replicate n.toNat 0, 0⟩ : GRing).okf = true := by
  unfold GRing.okf
  rw [Bool.and_eq_true]
  refine ⟨?_, zeros_fin _⟩
  unfold GRing.ok GRing.len inR
  rw [show (((List.replicate n.toNat 0).length : Nat) : Int) = n by rw [List.length_replicate]; omega]
  simp only [Bool.and_eq_true, decide_eq_true_eq]
  exact ⟨⟨by omega, by omega⟩, by omega, by omega⟩
theorem onePole_ok {k : Nat} (h : place k = true) : ((onePole k).ok && (onePole k).Kind == 1) = true := by
  have f1 := one_sub h
  have f2 := inside_fin rd_c0 rd_c1 (place_inside h)
  have f0 := fin_read rd_c0
  unfold onePole GFilter.ok used usesC usesS inR
  simp only [List.length_cons, List.length_nil]
  simp [List.range_succ, f1, f2, f0]
theorem newBow_ok {p : Int} {k l s : Nat} (h : (newBow p k l s).2 = 0) : (newBow p k l s).1.ok = true := by
  unfold newBow at *
  split at h
  · next h1 =>
    split at h
    · next h2 =>
      split at h
      · next h3 =>
        split at h
        · next h4 =>
          rw [if_pos h1, if_pos h2, if_pos h3, if_pos h4]
          simp only [inR, Bool.and_eq_true, decide_eq_true_eq] at h1
          unfold GBow.ok
          simp only [Bool.and_eq_true]
          have hb : 1 ≤ bowN p ∧ bowN p ≤ p - 1 := by unfold bowN; split <;> omega
          have h5 := onePole_ok h2
          rw [Bool.and_eq_true] at h5
          refine ⟨⟨⟨ring_okf (by omega) (by omega), ring_okf (by omega) (by omega)⟩, h5⟩, h4, inside_fin rd_c0 rd_c1 h3⟩
        · cases h
      · cases h
    · cases h
  · cases h
theorem voice_new {s : GScore} {e : GEvent} {v : GVoice} (h : voiceOf s e = some v) : v.Note = e.Note ∧ v.Instrument = e.Instrument ∧ bodyRuns (s.kind v) v := by
  unfold voiceOf at h
  dsimp only at h
  have fin : ∀ {w : GVoice}, w.Note = e.Note → w.Instrument = e.Instrument → bodyRuns s.Instruments[e.Instrument.toNat]!.Kind w → w = v → v.Note = e.Note ∧ v.Instrument = e.Instrument ∧ bodyRuns (s.kind v) v := fun h1 h2 h3 e => by
    subst e
    refine ⟨h1, h2, ?_⟩
    unfold GScore.kind
    rw [h2]; exact h3
  split at h
  · split at h
    · next k1 =>
      split at h
      · split at h
        · next hp =>
          refine fin (by rfl) (by rfl) ?_ (Option.some.inj h)
          unfold bodyRuns
          rw [if_pos k1]
          exact newString_ok hp
        · cases h
      · cases h
    · next k1 =>
      split at h
      · next k2 =>
        split at h
        · next hp =>
          refine fin (by rfl) (by rfl) ?_ (Option.some.inj h)
          unfold bodyRuns
          rw [if_neg k1, if_pos k2]
          exact newPipe_runs hp
        · cases h
      · next k2 =>
        split at h
        · next hp =>
          refine fin (by rfl) (by rfl) ?_ (Option.some.inj h)
          unfold bodyRuns
          rw [if_neg k1, if_neg k2]
          exact newBow_ok hp
        · cases h
  · cases h
end Go.Sx
/- Rooms made by the rule: valid for drawn numbers. -/
set_option linter.unusedVariables false
set_option linter.unusedSimpArgs false
namespace Go.Sx
open Go.Proofs
set_option maxRecDepth 100000
set_option maxHeartbeats 1000000

section
variable {h0 h : Heap} {q : Addr} {F : Fr} {L : List Blk} {y k : Nat}
/-- A room of which the first n loops are made. -/
structure Made (x : GRoom) (n : Nat) : Prop where
  e : x.Early.okf = true
  t : x.Taps = []
  c2 : x.Combs.length = 2
  c : x.Combs.all GComb.ok = true
  l4 : x.Loops.length = 4
  d4 : x.Damps.length = 4
  g4 : x.Gains.length = 4
  l : ∀ i, i < n → x.Loops[i]!.okf = true
  d : ∀ i, i < n → (x.Damps[i]!.ok && x.Damps[i]!.Kind == 1) = true
  g : ∀ i, i < n → fin x.Gains[i]! = true
  dry : fin x.Dry = true
  wet : fin x.Wet = true
theorem all_idx {α : Type} [Inhabited α] {l : List α} {p : α → Bool} (H : ∀ i, i < l.length → p l[i]! = true) : l.all p = true := by
  rw [List.all_eq_true]
  intro a ha
  obtain ⟨i, hi, rfl⟩ := List.mem_iff_getElem.1 ha
  have := H i hi
  rwa [getElem!_pos l i hi] at this
theorem Made.ok {x : GRoom} (M : Made x 4) : x.ok = true := by
  rw [room_ok, M.e, M.c, M.t, M.dry, M.wet]
  rw [all_idx (l := x.Loops) (p := GRing.okf) fun i hi => M.l i (by rw [M.l4] at hi; exact hi)]
  rw [all_idx (l := x.Damps) (p := fun f => f.ok && f.Kind == 1) fun i hi => M.d i (by rw [M.d4] at hi; exact hi)]
  unfold allFin
  rw [all_idx (l := x.Gains) (p := fin) fun i hi => M.g i (by rw [M.g4] at hi; exact hi)]
  rfl
theorem setGet {α : Type} [Inhabited α] {l : List α} {i j : Nat} {a : α} (hj : j < l.length) : (l.set i a)[j]! = if i = j then a else l[j]! := by
  rw [getElem!_pos _ j (by rw [List.length_set]; exact hj), List.getElem_set]
  split
  · rfl
  · rw [getElem!_pos _ j hj]
theorem Made.step {x : GRoom} {n : Nat} {r : GRing} {f : GFilter} {g : Nat} (M : Made x n) (hn : n < 4) (hr : r.okf = true) (hf : (f.ok && f.Kind == 1) = true) (hg : fin g = true) : Made { x with Loops := x.Loops.set n r, Damps := x.Damps.set n f, Gains := x.Gains.set n g } (n + 1) := by
  obtain ⟨e, t, c2, c, l4, d4, g4, l, d, gg, dry, wet⟩ := M
  refine ⟨e, t, c2, c, by rw [List.length_set]; exact l4, by rw [List.length_set]; exact d4, by rw [List.length_set]; exact g4, fun i hi => ?_, fun i hi => ?_, fun i hi => ?_, dry, wet⟩
  · show (x.Loops.set n r)[i]!.okf = true
    rw [setGet (by omega)]
    split
    · exact hr
    · exact l i (by omega)
  · show ((x.Damps.set n f)[i]!.ok && (x.Damps.set n f)[i]!.Kind == 1) = true
    rw [setGet (by omega)]
    split
    · exact hf
    · exact d i (by omega)
  · show fin (x.Gains.set n g)[i]! = true
    rw [setGet (by omega)]
    split
    · exact hg
    · exact gg i (by omega)
end
end Go.Sx
/- Drawn rooms are valid. -/
set_option linter.unusedVariables false
set_option linter.unusedSimpArgs false
namespace Go.Sx
open Go.Proofs
set_option maxRecDepth 100000
set_option maxHeartbeats 1000000

section
variable {h0 h h' : Heap} {L W : List Blk} {g : Nat} {cb : Option Addr} {cc K : Nat} {xs : List Int} {n : Int}
theorem Src.alc {cs : Array Value} {T : Nat} {F : Nat → Heap → Prop} (S : Src h0 h L g cb xs.length cc K) (H : ∀ g' h', Src h0 h' ((g', T, cs) :: L) g cb xs.length cc K → F g' h') : ALC cs T F h := by
  obtain ⟨p, st, hp, M⟩ := S
  exact M.alc fun g' h' x M => H g' h' ⟨p, st, hp, M.cnt fun p => by simp only [cnt_app, cnt_cons, cnt_nil]; omega⟩
theorem Src.sta {cs vs : Array Value} {T g' m : Nat} {F : Heap → Prop} (S : Src h0 h ((g', T, cs) :: L) g cb xs.length cc K) (hv : vs.size = m) (ho : ∀ v ∈ vs.toList, v.oneCell' = true) (hn : cs.size = m) (H : ∀ h', Src h0 h' ((g', T, vs) :: L) g cb xs.length cc K → F h') : STA m h ⟨g', 0, none⟩ vs F := by
  obtain ⟨p, st, hp, M⟩ := S
  have M := M.cnt (W := (g', T, cs) :: (g, T_spec_l00Src, ⟨[.slice cb xs.length cc, .int .i64 (p : Int), .int .u64 st]⟩) :: L) (fun p => by simp only [cnt_app, cnt_cons, cnt_nil]; omega)
  exact M.sta0 .here hv ho hn .here fun h' M => H h' ⟨p, st, hp, M.cnt fun p => by simp only [cnt_app, cnt_cons, cnt_nil]; omega⟩
end
end Go.Sx
/- Silence stays: bows that are not drawn, jets that are not blown, rooms to which nothing comes. -/
set_option linter.unusedVariables false
set_option linter.unusedSimpArgs false
namespace Go.Sx
open Go.Proofs Ieee
set_option maxRecDepth 100000
set_option maxHeartbeats 1000000

def Z2 (a : Nat) : Prop := a = 0 ∨ a = 2147483648
theorem z0 : Z2 0 := .inl rfl
def GRing.nil (r : GRing) : Prop := ∀ a ∈ r.Samples, a = 0
/-- A filter of finite numbers at rest. -/
structure Rest (k : Int) (f : GFilter) : Prop where
  k : f.Kind = k
  c : ∀ i : Nat, fin f.C[i]! = true
  s : f.S = [0, 0]
def jetAt (p : Nat) : Nat := clamp (fmul .f32 p (fsub .f32 (fmul .f32 p p) 1065353216)) 1065353216
def GJet.ok (x : GJet) : Bool := x.Throat.okf && x.Bore.okf && (x.Low.ok && x.Low.Kind == 1) && (x.Dc.ok && x.Dc.Kind == 5) && (fin x.Near && fin x.Far)
def GJet.step (x : GJet) (a : Nat) : GJet × Nat :=
  let l := x.Low.step x.Bore.old
  let d := x.Dc.step l.2
  ({ x with Throat := x.Throat.push (kept (fsub .f32 a (fmul .f32 x.Near d.2))), Bore := x.Bore.push (kept (fadd .f32 (jetAt x.Throat.old) (fmul .f32 x.Far d.2))), Low := l.1, Dc := d.1 }, x.Bore.old)
def GJet.silent (x : GJet) : Bool := x.Throat.zero && x.Bore.zero && x.Low.still && x.Dc.still
end Go.Sx
/- Drawn bows are valid. -/
set_option linter.unusedVariables false
set_option linter.unusedSimpArgs false
namespace Go.Sx
open Go.Proofs Ieee
set_option maxRecDepth 100000
set_option maxHeartbeats 2000000

/-- A valid new thing. -/
def NewOk {α : Type} (r : Rep α) (ok : α → Bool) (h h' : Heap) (u : Value) : Prop := ∃ cs B x, u = .tuple ⟨[.agg cs, .int .i64 (0 : Int)]⟩ ∧ r.ow B cs.toList x ∧ ok x = true ∧ Mem h h' B
theorem NewOk.go {α : Type} {r : Rep α} {ok : α → Bool} {P : Program} {f : FuncId} {args : Array Value} {hh : Heap} {Q : Value → Heap → Prop} (c : CALL P f args (fun u h' => NewOk r ok hh h' u) hh) (H : ∀ h' cs B x, r.ow B cs.toList x → ok x = true → Mem hh h' B → Q (.tuple ⟨[.agg cs, .int .i64 (0 : Int)]⟩) h') : CALL P f args Q hh :=
  c.mono fun u h' ⟨cs, B, x, e, O, hx, N⟩ => by subst e; exact H h' cs B x O hx N
section
variable {α : Type} {rp : Rep α} {h0 h h' : Heap} {L W : List Blk} {g T : Nat} {cb : Option Addr} {cc K : Nat} {xs : List Int} {n : Int}
/-- A thing in a block, beside the machine. -/
def DG (rp : Rep α) (T : Nat) (h0 h : Heap) (L : List Blk) (g : Nat) (cb : Option Addr) (cl cc K r : Nat) (x : α) : Prop := ∃ cs B, rp.ow B cs.toList x ∧ Src h0 h ((r, T, cs) :: (B ++ L)) g cb cl cc K
theorem DG.pt {r : Nat} {x : α} (D : DG rp T h0 h L g cb xs.length cc K r x) : ∃ (p : Nat) (st : Int), p ≤ K ∧ Pt rp h0 h ⟨r, 0, none⟩ ⟨r, T, [], []⟩ ((g, T_spec_l00Src, ⟨[.slice cb xs.length cc, .int .i64 (p : Int), .int .u64 st]⟩) :: L) x := by
  obtain ⟨cs, B, O, p, st, hp, M⟩ := D
  exact ⟨p, st, hp, Pt.new O (M.cnt fun p => by simp only [cnt_app, cnt_cons, cnt_nil]; omega)⟩
theorem DG.of {r p : Nat} {st : Int} {x : α} (hp : p ≤ K) (P : Pt rp h0 h ⟨r, 0, none⟩ ⟨r, T, [], []⟩ ((g, T_spec_l00Src, ⟨[.slice cb xs.length cc, .int .i64 (p : Int), .int .u64 st]⟩) :: L) x) : DG rp T h0 h L g cb xs.length cc K r x := by
  obtain ⟨cs, B, M, O⟩ := P.out
  exact ⟨cs, B, O, p, st, hp, M.cnt fun p => by simp only [cnt_app, cnt_cons, cnt_nil]; omega⟩
end
end Go.Sx
