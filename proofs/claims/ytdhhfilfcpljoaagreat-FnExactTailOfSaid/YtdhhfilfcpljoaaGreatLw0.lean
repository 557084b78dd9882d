/- What the laws over rooms have in common. -/
import Derived.Test.YtdhhfilfcpljoaaGreatLm2
import Derived.Test.YtdhhfilfcpljoaaGreatLh2
set_option linter.unusedVariables false
set_option linter.unusedSimpArgs false
namespace Go.Sx
open Go.Proofs
set_option maxRecDepth 100000

theorem PairR.go {α : Type} {r : Rep α} {P : Program} {f : FuncId} {args : Array Value} {a : α} {code : Int} {hb h : Heap} {L : List Blk} {K : Value → Heap → Prop} (M : Mem hb h L) (c : CALL P f args (fun u h' => PairR r h h' u a code) h)
    (H : ∀ h' cs B, Mem hb h' (B ++ L) → r.ow B cs.toList a → cs.size = r.sz → K (.tuple ⟨[.agg cs, .int .i64 code]⟩) h') : CALL P f args K h :=
  c.mono fun u h' ⟨cs, B, e, O, N⟩ => by subst e; exact H h' cs B (M.join N) O (by simpa using r.olen O)
/-- A value marked, its blocks among the others. -/
theorem markM {α : Type} {r : Rep α} {P : Program} {f : FuncId} {args : Array Value} {b : α} {v : Value} {hb h : Heap} {L : List Blk} {cs : Array Value} {K : Value → Heap → Prop}
    (c : CALL P f args (fun u h' => u = v ∧ ∃ B', r.ow B' cs.toList b ∧ Mem hb h' (B' ++ L)) h) (H : ∀ h' B', Mem hb h' (B' ++ L) → r.ow B' cs.toList b → K v h') : CALL P f args K h :=
  c.mono fun u h' ⟨e, B', O, N⟩ => by subst e; exact H h' B' N O
theorem eqB {a : Int} {p q : Prop} (H : q) : BIF (a != a) p q := by
  rw [show (a != a) = false by simp]; exact H
theorem bne_br {b : Bool} {p q : Prop} (hb : b = true) (H : q) : BIF (!b) p q := by
  subst hb; exact H
theorem ge_br {a : Int} {p q : Prop} (h : 0 ≤ a) (H : q) : BIF (decide (a < 0)) p q := by
  rw [show decide (a < 0) = false by simp; omega]; exact H
theorem markS {α : Type} {e : Nat} {r : Rep α} {P : Program} {f : FuncId} {args : Array Value} {xs : List α} {v : Value} {hb h : Heap} {L : List Blk} {b : Option Addr} {l c : Nat} {K : Value → Heap → Prop}
    (k : CALL P f args (fun u h' => u = v ∧ ∃ B', SlO e r B' b l c xs ∧ Mem hb h' (B' ++ L)) h) (H : ∀ h' B', Mem hb h' (B' ++ L) → SlO e r B' b l c xs → K v h') : CALL P f args K h :=
  k.mono fun u h' ⟨e, B', O, N⟩ => by subst e; exact H h' B' N O
/-- A slice answered, new. -/
theorem goS {α : Type} {e : Nat} {r : Rep α} {P : Program} {f : FuncId} {args : Array Value} {xs : List α} {hb h : Heap} {L : List Blk} {l : Nat} {K : Value → Heap → Prop} (M : Mem hb h L)
    (k : CALL P f args (fun u h' => ∃ b' c' B, u = .slice b' l c' ∧ SlO e r B b' l c' xs ∧ Mem h h' B) h) (H : ∀ h' b' c' B, Mem hb h' (B ++ L) → SlO e r B b' l c' xs → K (.slice b' l c') h') : CALL P f args K h :=
  k.mono fun u h' ⟨b', c', B, e, O, N⟩ => by subst e; exact H h' b' c' B (M.join N) O
theorem subW_le {left w : Nat} (h : decide (subW left w < 0) = false) : w ≤ left := by
  unfold subW at h
  split at h
  · simp at h
  · omega
section
variable {h : Heap}
theorem room_lens {cs : List Value} {x : GRoom} (R : rRoom.rd h cs x) : x.Combs.length = 2 ∧ x.Loops.length = 4 := by
  obtain ⟨_, _, _, _, _, _, _, _, _, _, _, RC, _, _, _, RL, _⟩ := R
  exact ⟨RC.1, RL.1⟩
theorem w_ok {x : GRoom} (h : x.ok = true) (hC : x.Combs.length = 2) (hL : x.Loops.length = 4) : w_Ring x.Early ≤ 1024 ∧ w_TapS x.Taps ≤ 6 ∧ w_CombA2 x.Combs ≤ 2048 ∧ w_RingA4 x.Loops ≤ 4096 := by
  rw [room_ok] at h
  simp only [Bool.and_eq_true, decide_eq_true_eq, List.all_eq_true] at h
  obtain ⟨⟨⟨⟨⟨⟨⟨⟨h1, h2⟩, h3⟩, h4⟩, h5⟩, h6⟩, h7⟩, h8⟩, h9⟩ := h
  have k : ∀ r : GRing, r.okf = true → w_Ring r ≤ 1024 := fun r hr => by
    unfold GRing.okf at hr
    rw [Bool.and_eq_true] at hr
    have := at_lt hr.1
    unfold w_Ring w_Float32S
    omega
  have k2 : ∀ c : GComb, c.ok = true → w_Comb c ≤ 1024 := fun c hc => by
    unfold GComb.ok at hc
    rw [Bool.and_eq_true] at hc
    exact k _ hc.1
  obtain ⟨a, b, e1⟩ := is2 hC
  obtain ⟨c, d, e, f, e2⟩ := is4 hL
  rw [e1] at h3 ⊢
  rw [e2] at h4 ⊢
  have a1 := k2 a (h3 a (by simp)); have a2 := k2 b (h3 b (by simp))
  have b1 := k c (h4 c (by simp)); have b2 := k d (h4 d (by simp)); have b3 := k e (h4 e (by simp)); have b4 := k f (h4 f (by simp))
  refine ⟨k _ h1, h2, ?_, ?_⟩
  · show nL w_Comb [a, b] ≤ 2048; simp only [nL]; omega
  · show nL w_Ring [c, d, e, f] ≤ 4096; simp only [nL]; omega
theorem w_runs {x : GRoom} (R : x.Runs) (ht : x.Taps.length ≤ 6) : w_Room x ≤ 1048576 := by
  have k : ∀ r : GRing, r.ok = true → w_Ring r ≤ 1024 := fun r hr => by
    have := at_lt hr
    unfold w_Ring w_Float32S
    omega
  have k2 : ∀ c : GComb, c.Ring.ok = true → w_Comb c ≤ 1024 := fun c hc => k _ hc
  have h1 := k _ R.e
  have h3 := R.c
  have h4 := R.l
  have e3 : w_CombA2 x.Combs ≤ 2048 := by
    obtain ⟨a, b, e1⟩ := is2 R.c2
    rw [e1] at h3 ⊢
    have a1 := k2 a (h3 a (by simp)); have a2 := k2 b (h3 b (by simp))
    show nL w_Comb [a, b] ≤ 2048; simp only [nL]; omega
  have e4 : w_RingA4 x.Loops ≤ 4096 := by
    obtain ⟨c, d, e, f, e2⟩ := is4 R.l4
    rw [e2] at h4 ⊢
    have b1 := k c (h4 c (by simp)); have b2 := k d (h4 d (by simp)); have b3 := k e (h4 e (by simp)); have b4 := k f (h4 f (by simp))
    show nL w_Ring [c, d, e, f] ≤ 4096; simp only [nL]; omega
  have e5 : w_TapS x.Taps ≤ 6 := ht
  unfold w_Room
  omega
theorem w_zero : w_Room z_Room ≤ 1048576 := by decide
theorem ok_taps {x : GRoom} (h : x.ok = true) : x.Taps.length ≤ 6 := by
  rw [room_ok] at h
  simp only [Bool.and_eq_true, decide_eq_true_eq] at h
  exact h.1.1.1.1.1.1.1.2
theorem room_all {cs : List Value} {x : GRoom} (R : rRoom.rd h cs x) : x.Combs.length = 2 ∧ x.Loops.length = 4 ∧ x.Damps.length = 4 ∧ x.Gains.length = 4 := by
  obtain ⟨_, _, _, _, _, _, _, _, _, _, _, RC, _, _, _, RL, _, _, _, RD, _, _, _, RG, _⟩ := R
  exact ⟨RC.1, RL.1, RD.1, RG.1⟩
theorem room_runs {cs : List Value} {x : GRoom} (R : rRoom.rd h cs x) (hok : x.ok = true) : x.Runs := by
  obtain ⟨c, l, d, g⟩ := room_all R
  exact ok_runs hok c l d g
end
end Go.Sx
