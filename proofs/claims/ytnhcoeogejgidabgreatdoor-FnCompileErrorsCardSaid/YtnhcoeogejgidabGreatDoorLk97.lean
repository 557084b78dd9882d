/- Elements of own slices set and exchanged; notes of a score; events of notes, sorted by the rule. -/
import Derived.Test.YtnhcoeogejgidabGreatDoorLm21
import Derived.Test.YtnhcoeogejgidabGreatDoorLm14
import Derived.Test.YtnhcoeogejgidabGreatDoorLk27
import Derived.Test.YtnhcoeogejgidabGreatDoorLk30
import Derived.Test.YtnhcoeogejgidabGreatDoorTabE
import Derived.Test.YtnhcoeogejgidabGreatDoorLp5
import Derived.Test.YtnhcoeogejgidabGreatDoorTab
import Derived.Test.YtnhcoeogejgidabGreatDoorLr7
import Derived.Test.YtnhcoeogejgidabGreatDoorLm22
import Derived.Test.YtnhcoeogejgidabGreatDoorLv2
import Derived.Test.YtnhcoeogejgidabGreatDoorLk24
import Derived.Test.YtnhcoeogejgidabGreatDoorLcn
set_option linter.unusedVariables false
set_option linter.unusedSimpArgs false
namespace Go.Sx
open Go.Proofs
set_option maxRecDepth 100000
set_option maxHeartbeats 1000000

section
variable {β : Type} [Inhabited β] {s : Rep β} {P : Program} {h0 h : Heap} {B L : List Blk} {b : Option Addr} {e l c n i k t ty bytes : Nat} {els : List β}
/-- An element of an own slice set. -/
theorem SlO.setF {vs : Array Value} {x : β} {K : Heap → Prop} (O : SlO e s B b l c els) (M : Mem h0 h (B ++ L)) (hi : i < l) (hn : s.sz = n) (Ox : s.ow [] vs.toList x)
    (H : ∀ h' B', SlO e s B' b l c (els.set i x) → Mem h0 h' (B' ++ L) → K h') : IDXS b (i : Int) l fun p => STA n h (p.add ((i : Int).toNat * s.sz)) vs K := by
  obtain ⟨a0, F', L', rfl, P, hs, close⟩ := O.elem M hi
  refine idxs (by omega) (by omega) ?_
  rw [Int.toNat_natCast]
  refine P.sts0 (B' := []) (Foc.here s) hn Ox fun h' P' => ?_
  obtain ⟨B', O', M'⟩ := close _ _ _ P'
  exact H h' B' O' M'
/-- Two neighbours of an own slice exchanged, by a local copy. -/
theorem SlO.swap {z : Array Value} {T : Nat} {K : Heap → Prop} (O : SlO e s B b l c els) (M : Mem h0 h (B ++ L)) (hf : Flat s) (hk0 : 0 < k) (hk : k < l) (hn : s.sz = n) (hp : 0 < s.sz) (hz : z.size = n)
    (H : ∀ h' B', SlO e s B' b l c (swpL els k) → Mem h0 h' (B' ++ L) → K h') :
    IDXS b (k : Int) l fun p => LDA n h (p.add ((k : Int).toNat * s.sz)) fun a => ALC z T (fun g h1 => STA n h1 ⟨g, 0, none⟩ a fun h2 => IDXS b ((k - 1 : Nat) : Int) l fun p => LDA n h2 (p.add (((k - 1 : Nat) : Int).toNat * s.sz)) fun a =>
      IDXS b (k : Int) l fun p => STA n h2 (p.add ((k : Int).toNat * s.sz)) a fun h3 => LDA n h3 ⟨g, 0, none⟩ fun a => IDXS b ((k - 1 : Nat) : Int) l fun p => STA n h3 (p.add (((k - 1 : Nat) : Int).toNat * s.sz)) a K) h := by
  have S := O.look M (List.sublist_append_left _ _)
  refine S.idn hp hk fun a Ra => Ra.lda1 hn fun c1 R1 => M.alc fun g h1 x1 M1 => M1.sta0 .here (rsz R1 hn) (s.rone R1) hz .here fun h2 M2 => ?_
  have S2 := O.look M2 ((List.sublist_append_left _ _).trans (List.sublist_cons_self _ _))
  refine S2.idn hp (show k - 1 < l by omega) fun a' Ra' => Ra'.lda1 hn fun c2 R2 => ?_
  have M3 : Mem h0 h2 (B ++ ((g, T, c1) :: L)) := M2.perm List.perm_middle.symm
  refine O.setF M3 hk hn (hf _ _ _ R2) fun h3 B3 O3 M4 => ?_
  refine (M4.perm List.perm_middle).lda0 .here (rsz R1 hn) ?_
  exact O3.setF M4 (show k - 1 < l by omega) hn (hf _ _ _ R1) fun h4 B4 O4 M6 => H h4 B4 O4 (M6.sub (List.Sublist.append (List.Sublist.refl _) (List.sublist_cons_self _ _)))
end
theorem event_ow {a k n i y : Int} {x f : Nat} (hf : FW .f32 x f) : rEvent.ow [] [.int .i64 a, .int .i64 k, .int .i64 n, .int .i64 i, .int .i64 y, .float .f32 x] ⟨a, k, n, i, y, f⟩ :=
  ⟨[], [], [_], [_, _, _, _, _], rfl, rfl, ⟨rfl, rfl⟩, [], [], [_], [_, _, _, _], rfl, rfl, ⟨rfl, rfl⟩, [], [], [_], [_, _, _], rfl, rfl, ⟨rfl, rfl⟩, [], [], [_], [_, _], rfl, rfl, ⟨rfl, rfl⟩, [], [], [_], [_], rfl, rfl, ⟨rfl, rfl⟩, rfl, x, rfl, hf⟩
section
variable {h : Heap}
theorem half_wrap {l : Nat} (h : l ≤ 4294967296) : IntKind.i64.wrap (Int.tdiv (l : Int) 2) = ((l / 2 : Nat) : Int) := by
  rw [show Int.tdiv (l : Int) 2 = ((l / 2 : Nat) : Int) from rfl, wrap64 (by omega) (by omega)]
end
end Go.Sx
/- Notes, lines with one number, lines compiled by the rule. -/
set_option linter.unusedVariables false
set_option linter.unusedSimpArgs false
namespace Go.Sx
open Go.Proofs
set_option maxRecDepth 100000
set_option maxHeartbeats 1000000

section
variable {h0 h : Heap} {q : Addr} {F : Fr} {L : List Blk} {s : GComp} {p : Nat}
theorem playL_eq {ws : List (List UInt8)} : s.playL p ws = match signedL ws[2]!, fracL ws[3]!, wholeL ws[4]! with
  | some key, some force, some long => if nameOk (mkB ws[1]!) then s.note p (mkB ws[1]!) key force long else .error 5
  | _, _, _ => .error 5 := rfl
theorem playL_bad {ws : List (List UInt8)} (h : nameOk (mkB ws[1]!) = false ∨ signedL ws[2]! = none ∨ fracL ws[3]! = none ∨ wholeL ws[4]! = none) : s.playL p ws = .error 5 := by
  rw [playL_eq]
  rcases h with h | h | h | h
  · rw [h]; split <;> rfl
  · rw [h]
  · rw [h]; cases signedL ws[2]! <;> rfl
  · rw [h]; cases signedL ws[2]! <;> cases fracL ws[3]! <;> rfl
end
end Go.Sx
/- Deeds read: the program's, and the law. -/
set_option linter.unusedVariables false
set_option linter.unusedSimpArgs false
namespace Go.Sx
open Go.Proofs
set_option maxRecDepth 100000
set_option maxHeartbeats 2000000

theorem cut_len {c : UInt8} : ∀ {l w : List UInt8}, w ∈ cutL c l → w.length ≤ l.length
  | [], w, h => by simp [cutL] at h; subst h; simp
  | b :: l, w, h => by
    unfold cutL at h
    split at h
    · rcases List.mem_cons.1 h with rfl | h
      · simp
      · have := cut_len h; simp; omega
    · split at h
      · simp at h; subst h; simp
      · next v r e =>
        rcases List.mem_cons.1 h with rfl | h
        · have := cut_len (l := l) (w := v) (by rw [e]; exact List.mem_cons_self ..)
          simp; omega
        · have := cut_len (l := l) (w := w) (by rw [e]; exact List.mem_cons_of_mem _ h)
          simp; omega
end Go.Sx
/- Lines with one number, ends, lines compiled by the rule. -/
set_option linter.unusedVariables false
set_option linter.unusedSimpArgs false
namespace Go.Sx
open Go.Proofs
set_option maxRecDepth 100000
set_option maxHeartbeats 1000000

theorem slA_z (b : Option Addr) (c s : Nat) : slA b c 0 s = b := by
  unfold slA
  split
  · rfl
  · cases b with
    | none => rfl
    | some a => show some (a.add (0 * s)) = _; rw [Nat.zero_mul, add0]
def ResL (h0 h' : Heap) (q : Addr) (F : Fr) (L : List Blk) (r : CRes) (u : Value) : Prop := match r with
  | .ok (s', p') => u = .tuple ⟨[.int .i64 (p' : Int), .int .i64 0]⟩ ∧ Pt rWork h0 h' q F L s'.work
  | .error e => ∃ k : Int, u = .tuple ⟨[.int .i64 k, .int .i64 e]⟩ ∧ e ≠ 0 ∧ Mem h0 h' L
section
variable {h0 h' : Heap} {q : Addr} {F : Fr} {L : List Blk} {r : CRes} {s' : GComp} {p p' : Nat} {e k : Int}
theorem ResL.ok (E : r = .ok (s', p')) (P : Pt rWork h0 h' q F L s'.work) : ResL h0 h' q F L r (.tuple ⟨[.int .i64 (p' : Int), .int .i64 0]⟩) := by subst E; exact ⟨rfl, P⟩
theorem ResL.err (E : r = .error e) (M : Mem h0 h' L) (he : e ≠ 0 := by decide) : ResL h0 h' q F L r (.tuple ⟨[.int .i64 k, .int .i64 e]⟩) := by subst E; exact ⟨k, rfl, he, M⟩
theorem ResW.line {u : Value} (R : ResW h0 h' q F L p r u) (hp : p ≤ 1000) : asI .i64 u fun n => ResL h0 h' q F L r (.tuple ⟨[.int .i64 (IntKind.i64.wrap ((p : Int) + 1)), .int .i64 n]⟩) := by
  unfold ResW at R
  split at R
  · obtain ⟨rfl, rfl, P⟩ := R
    refine as_i ?_
    rw [wrap64_succ (by omega)]
    exact ⟨rfl, P⟩
  · obtain ⟨rfl, he, M⟩ := R
    exact as_i ⟨_, rfl, he, M⟩
end
end Go.Sx
/- Two scores joined, plainly. -/
set_option linter.unusedVariables false
set_option linter.unusedSimpArgs false
namespace Go.Sx

noncomputable def ordE (ns : List GNote) : List GEvent := Classical.epsilon (Sorted ns)
noncomputable def notesE (es : List GEvent) : List GNote := Classical.epsilon fun ns => NInv es es.length ns
section
variable {ns ms : List GNote} {l es : List GEvent} {ni : Int}
theorem ordE_eq (S : Sorted ns l) : ordE ns = l := Sorted.unique (Classical.epsilon_spec ⟨l, S⟩) S
theorem NInv.unique (G : EvGood es ni) (I : NInv es es.length ns) (J : NInv es es.length ms) : ns = ms := by
  refine List.ext_getElem (by rw [I.len, J.len]) fun k h1 h2 => ?_
  have hk : k < es.length / 2 := by rw [← I.len]; exact h1
  obtain ⟨j, hj, hs, hn⟩ := G.all isSt (.inl rfl) hk
  obtain ⟨i, hi, hp, hm⟩ := G.all isSp (.inr rfl) hk
  obtain ⟨a1, a2, a3, a4⟩ := I.st j hj hs
  obtain ⟨b1, b2, b3, b4⟩ := J.st j hj hs
  have a5 := I.sp i hi hp
  have b5 := J.sp i hi hp
  rw [hn, Int.toNat_natCast] at a1 a2 a3 a4 b1 b2 b3 b4
  rw [hm, Int.toNat_natCast] at a5 b5
  rw [← getElem!_pos ns k h1, ← getElem!_pos ms k h2]
  generalize ns[k]! = x at *
  generalize ms[k]! = y at *
  cases x; cases y
  simp only at a1 a2 a3 a4 a5 b1 b2 b3 b4 b5
  subst a1 a2 a3 a4 a5
  rw [b1, b2, b3, b4, b5]
end
noncomputable def GScore.ground (s t : GScore) : Bool := (s.Rate == t.Rate) && same s.Tuning t.Tuning && same s.Instruments t.Instruments
noncomputable def GScore.join (s t : GScore) (n : Int) : GScore × Int :=
  if s.ok && t.ok then if inR n 0 100000 && t.Events.all (fun e => decide (e.At + n ≤ 100000)) then if s.ground t then
    if s.Events.length + t.Events.length ≤ 128 then ({ s with Events := ordE (notesE s.Events ++ (notesE t.Events).map (shN n)) }, 0) else (z_Score, 3) else (z_Score, 4) else (z_Score, 2) else (z_Score, 1)
end Go.Sx
/- A score compiled, plainly. -/
set_option linter.unusedVariables false
set_option linter.unusedSimpArgs false
namespace Go.Sx

/-- The lines of a text: the last one may be ended or not. -/
def scoreL (t : List UInt8) : List (List UInt8) := if (cutL 10 t)[(cutL 10 t).length - 1]! = [] then (cutL 10 t).take ((cutL 10 t).length - 1) else cutL 10 t
def start0 : GComp := ⟨1194083328, equalT 1138491392 12, [], [], 0, []⟩
def runS (ls : List (List UInt8)) : Except (Nat × Int) GComp := (crun ls (cost ls.length start0 0 + 1) start0 0).getD (.ok start0)
theorem line_next {s s' : GComp} {p p' : Nat} {ws : List (List UInt8)} (hp : p < 100000) (I : CInv s) (e : s.line p ws = .ok (s', p')) : p' ≤ 100001 := by
  unfold GComp.line at e
  have goto : ∀ {m : Int}, 0 ≤ m → s.goto p m = .ok (s', p') → p' ≤ 100001 := fun {m} h0 e => by
    unfold GComp.goto at e
    rcases cond_ok e with ⟨_, e⟩ | ⟨h1, e⟩
    · cases e
    · cases e; omega
  have sound : ∀ {k : Int}, s.sound p k ws = .ok (s', p') → p' ≤ 100001 := fun {k} e => by
    unfold GComp.sound at e
    split at e
    · rcases cond_ok e with ⟨_, e⟩ | ⟨_, e⟩
      · unfold GComp.add at e
        rcases cond_ok e with ⟨hx, e⟩ | ⟨_, e⟩
        · rcases cond_ok e with ⟨_, e⟩ | ⟨hn, e⟩
          · cases e
          · rcases cond_ok e with ⟨h6, e⟩ | ⟨_, e⟩
            · cases e; omega
            · cases e
        · cases e
      · cases e
    · cases e
  rcases cond_ok e with ⟨_, e⟩ | ⟨_, e⟩
  · obtain ⟨m, _, e⟩ := word_ok e
    unfold GComp.setRate at e
    rcases cond_ok e with ⟨_, e⟩ | ⟨_, e⟩
    · rcases cond_ok e with ⟨_, e⟩ | ⟨_, e⟩
      · cases e; omega
      · cases e
    · cases e
  rcases cond_ok e with ⟨_, e⟩ | ⟨_, e⟩
  · split at e
    · unfold GComp.setTune at e
      rcases cond_ok e with ⟨_, e⟩ | ⟨_, e⟩
      · rcases cond_ok e with ⟨_, e⟩ | ⟨_, e⟩
        · cases e; omega
        · cases e
      · cases e
    · cases e
  rcases cond_ok e with ⟨_, e⟩ | ⟨_, e⟩
  · exact sound e
  rcases cond_ok e with ⟨_, e⟩ | ⟨_, e⟩
  · exact sound e
  rcases cond_ok e with ⟨_, e⟩ | ⟨_, e⟩
  · exact sound e
  rcases cond_ok e with ⟨_, e⟩ | ⟨_, e⟩
  · obtain ⟨m, _, e⟩ := word_ok (f := fun m => s.goto p (m : Int)) e; exact goto (by omega) e
  rcases cond_ok e with ⟨_, e⟩ | ⟨_, e⟩
  · obtain ⟨m, _, e⟩ := word_ok (f := fun m => s.goto p (s.now + (m : Int))) e; exact goto (by have := I.n0; omega) e
  rcases cond_ok e with ⟨_, e⟩ | ⟨_, e⟩
  · unfold GComp.playL at e
    split at e
    · rename_i key force long h1 h2 h3
      rcases cond_ok e with ⟨_, e⟩ | ⟨_, e⟩
      · unfold GComp.note at e
        rcases cond_ok e with ⟨_, e⟩ | ⟨hk, e⟩
        · cases e
        · rcases cond_ok e with ⟨_, e⟩ | ⟨hn, e⟩
          · cases e
          · rcases cond_ok e with ⟨h64, e⟩ | ⟨_, e⟩
            · cases e; omega
            · cases e
      · cases e
    · cases e
  rcases cond_ok e with ⟨_, e⟩ | ⟨_, e⟩
  · obtain ⟨m, _, e⟩ := word_ok e
    unfold GComp.open_ at e
    rcases cond_ok e with ⟨hm, e⟩ | ⟨_, e⟩
    · rcases cond_ok e with ⟨_, e⟩ | ⟨h3, e⟩
      · cases e
      · cases e; omega
    · cases e
  rcases cond_ok e with ⟨_, e⟩ | ⟨_, e⟩
  · unfold GComp.close at e
    rcases cond_ok e with ⟨_, e⟩ | ⟨h0, e⟩
    · cases e
    · have h1 : 1 ≤ s.loops.length := List.length_pos_iff.2 h0
      have hx := I.each s.loops[s.loops.length - 1]! (by rw [getElem!_pos s.loops _ (by omega)]; exact List.getElem_mem _)
      rcases cond_ok e with ⟨_, e⟩ | ⟨_, e⟩
      · cases e; omega
      · cases e; have := hx.1; omega
  · cases e
theorem start_loops (n : Nat) : Loops n 0 start0.loops := ⟨Nat.zero_le _, (fun x hx => by cases hx), List.Pairwise.nil⟩
theorem runS_spec (ls : List (List UInt8)) : crun ls (cost ls.length start0 0 + 1) start0 0 = some (runS ls) := by
  obtain ⟨r, e⟩ := crun_ends (cost ls.length start0 0 + 1) start0 0 (start_loops ls.length) (Nat.lt_succ_self _)
  unfold runS
  rw [e]; rfl
theorem start_inv : CInv start0 := ⟨Nat.zero_le _, rfl, Nat.zero_le _, by decide, by decide, Nat.zero_le _, (fun x hx => by cases hx), by show (List.map _ (List.range _)).length ≤ 31; rw [List.length_map, List.length_range]; decide⟩
noncomputable def GComp.score (s : GComp) : GScore := ⟨s.rate, s.tune, s.kinds, ordE s.notes⟩
noncomputable def endS (n : Nat) : Except (Nat × Int) GComp → GScore × Int × Int
  | .ok s => if s.loops = [] then (s.score, 0, 0) else (z_Score, n, 4)
  | .error (p, e) => (z_Score, p, e)
noncomputable def compileS (t : List UInt8) : GScore × Int × Int := if 4000 < t.length ∨ 200 < (scoreL t).length then (z_Score, 0, 2) else endS (scoreL t).length (runS (scoreL t))
/-- How the run goes on, as far as a loop needs it. -/
structure RunAt (ls : List (List UInt8)) (f p : Nat) (s : GComp) : Prop where
  I : CInv s
  lp : Loops ls.length p s.loops
  fuel : cost ls.length s p < f
  run : crun ls f s p = some (runS ls)
section
variable {ls : List (List UInt8)} {f p p' : Nat} {s s' : GComp} {e : Int}
theorem RunAt.start : RunAt ls (cost ls.length start0 0 + 1) 0 start0 := ⟨start_inv, start_loops _, Nat.lt_succ_self _, runS_spec ls⟩
theorem RunAt.pos (R : RunAt ls f p s) : ∃ g, f = g + 1 := by
  cases f with
  | zero => exact absurd R.fuel (Nat.not_lt_zero _)
  | succ g => exact ⟨g, rfl⟩
theorem RunAt.next (R : RunAt ls f p s) (hn : ls.length ≤ 1000) (hp : p < ls.length) (h : s.line p (cutL 32 ls[p]!) = .ok (s', p')) : ∃ g, f = g + 1 ∧ RunAt ls g p' s' := by
  obtain ⟨g, rfl⟩ := R.pos
  obtain ⟨L', hc⟩ := line_cost hp R.lp h
  have := R.fuel
  refine ⟨g, rfl, line_inv (by omega) R.I h, L', by omega, ?_⟩
  have := R.run
  unfold crun at this
  rw [if_pos hp, h] at this
  exact this
theorem RunAt.bad (R : RunAt ls f p s) (hp : p < ls.length) (h : s.line p (cutL 32 ls[p]!) = .error e) : runS ls = .error (p, e) := by
  obtain ⟨g, rfl⟩ := R.pos
  have := R.run
  unfold crun at this
  rw [if_pos hp, h] at this
  exact (Option.some.inj this).symm
theorem RunAt.done (R : RunAt ls f p s) (hp : ¬ p < ls.length) : runS ls = .ok s := by
  obtain ⟨g, rfl⟩ := R.pos
  have := R.run
  unfold crun at this
  rw [if_neg hp] at this
  exact (Option.some.inj this).symm
end
end Go.Sx
/- Events of notes, sorted by the rule. -/
set_option linter.unusedVariables false
set_option linter.unusedSimpArgs false
namespace Go.Sx
open Go.Proofs
set_option maxRecDepth 100000
set_option maxHeartbeats 1000000

theorem ow_rd {α : Type} {r : Rep α} {vs : List Value} {a : α} {h : Heap} (O : r.ow [] vs a) : r.rd h vs a := r.look O (Mem.start h) (List.Sublist.refl _)
end Go.Sx
/- A score compiled by the rule. -/
set_option linter.unusedVariables false
set_option linter.unusedSimpArgs false
namespace Go.Sx
open Go.Proofs
set_option maxRecDepth 100000
set_option maxHeartbeats 1000000

/-- A score, a line and a code. -/
def TripR (h h' : Heap) (u : Value) (x : GScore × Int × Int) : Prop := ∃ cs B, u = .tuple ⟨[.agg cs, .int .i64 x.2.1, .int .i64 x.2.2]⟩ ∧ rScore.ow B cs.toList x.1 ∧ Mem h h' B
section
variable {h h' : Heap} {g : Nat} {L : List Blk} {n e : Int} {x : GScore × Int × Int}
theorem trip_bad (M : Mem h h' ((g, T_impl_Score, ⟨Z_impl_Score⟩) :: L)) (he : x = (z_Score, n, e)) : STA 6 h' ⟨g, 0, none⟩ ⟨Z_impl_Score⟩ fun h8 => LDA 6 h8 ⟨g, 0, none⟩ fun a9 => TripR h h8 (.tuple ⟨[.agg a9, .int .i64 n, .int .i64 e]⟩) x := by
  subst he
  exact M.sta0 .here rfl (all_one rfl) rfl .here fun h3 M => M.lda0 .here rfl ⟨_, [], rfl, zow_Score, (Mem.start h).grow M.ext⟩
theorem map_str {ws : List (List UInt8)} {i : Nat} (hi : i < ws.length) : (ws.map mkB)[i]! = mkB ws[i]! := by
  rw [getElem!_pos _ i (by rw [List.length_map]; exact hi), List.getElem_map, getElem!_pos ws i hi]
end
section
variable {h : Heap} {t : List UInt8}
theorem tune0 : tuneT 1138491392 12 = equalT 1138491392 12 := by
  unfold tuneT
  rw [if_pos (by decide +kernel)]; rfl
end
end Go.Sx
