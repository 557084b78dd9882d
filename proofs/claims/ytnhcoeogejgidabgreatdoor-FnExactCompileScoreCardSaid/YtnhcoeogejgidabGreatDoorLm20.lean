/- Two scores joined, plainly. -/
import Derived.Test.YtnhcoeogejgidabGreatDoorLm21
import Derived.Test.YtnhcoeogejgidabGreatDoorLm23
import Derived.Test.YtnhcoeogejgidabGreatDoorLk0
import Derived.Test.YtnhcoeogejgidabGreatDoorH4
import Derived.Test.YtnhcoeogejgidabGreatDoorTab
import Derived.Test.YtnhcoeogejgidabGreatDoorLk97
set_option linter.unusedVariables false
set_option linter.unusedSimpArgs false
namespace Go.Sx

noncomputable def ordE (ns : List GNote) : List GEvent := Classical.epsilon (Sorted ns)
noncomputable def notesE (es : List GEvent) : List GNote := Classical.epsilon fun ns => NInv es es.length ns
section
variable {ns ms : List GNote} {l es : List GEvent} {ni : Int}
theorem ordE_eq (S : Sorted ns l) : ordE ns = l := Sorted.unique (Classical.epsilon_spec ⟨l, S⟩) S
theorem leN_total (a b : GEvent) : leN ns a b ∨ leN ns b a := by
  unfold leN
  cases h : lt4 (keyN ns b) (keyN ns a) with
  | false => exact .inl rfl
  | true =>
    right
    rw [Bool.eq_false_iff]
    intro h2
    have := lt4_trans h h2
    rw [lt4_irrefl] at this; cases this
theorem sorted_ex (ns : List GNote) : ∃ l, Sorted ns l := by
  refine ⟨(evsOf ns).mergeSort fun a b => !lt4 (keyN ns b) (keyN ns a), List.mergeSort_perm _ _, ?_⟩
  have key := List.pairwise_mergeSort (le := fun a b => !lt4 (keyN ns b) (keyN ns a)) (fun a b c h1 h2 => ?_) (fun a b => ?_) (evsOf ns)
  · refine key.imp fun {a b} h => ?_
    simpa using h
  · simp only [Bool.not_eq_true'] at h1 h2 ⊢
    exact leN_trans h1 h2
  · rcases leN_total (ns := ns) a b with h | h
    · rw [show lt4 (keyN ns b) (keyN ns a) = false from h]; rfl
    · rw [show lt4 (keyN ns a) (keyN ns b) = false from h]; simp
theorem ordE_sorted (ns : List GNote) : Sorted ns (ordE ns) := Classical.epsilon_spec (sorted_ex ns)
theorem NInv.unique (G : EvGood es ni) (I : NInv es es.length ns) (J : NInv es es.length ms) : ns = ms := by
  refine List.ext_getElem (by rw [I.len, J.len]) fun k h1 h2 => ?_
  have hk : k < es.length / 2 := by rw [← I.len]; exact h1
  obtain ⟨j, hj, hs, hn⟩ := G.all isSt (.inl rfl) hk
  obtain ⟨i, hi, hp, hm⟩ := G.all isSp (.inr rfl) hk
  obtain ⟨a1, a2, a3, a4⟩ := I.st j hj hs
  obtain ⟨b1, b2, b3, b4⟩ := J.st j hj hs
  have a5 := I.sp i hi hp
  have b5 := J.sp i hi hp
  rw [hn, Int.toNat_natCast] at a1 a2 a3 a4 b1 b2 b3 b4
  rw [hm, Int.toNat_natCast] at a5 b5
  rw [← getElem!_pos ns k h1, ← getElem!_pos ms k h2]
  generalize ns[k]! = x at *
  generalize ms[k]! = y at *
  cases x; cases y
  simp only at a1 a2 a3 a4 a5 b1 b2 b3 b4 b5
  subst a1 a2 a3 a4 a5
  rw [b1, b2, b3, b4, b5]
end
noncomputable def GScore.ground (s t : GScore) : Bool := (s.Rate == t.Rate) && same s.Tuning t.Tuning && same s.Instruments t.Instruments
noncomputable def GScore.join (s t : GScore) (n : Int) : GScore × Int :=
  if s.ok && t.ok then if inR n 0 100000 && t.Events.all (fun e => decide (e.At + n ≤ 100000)) then if s.ground t then
    if s.Events.length + t.Events.length ≤ 128 then ({ s with Events := ordE (notesE s.Events ++ (notesE t.Events).map (shN n)) }, 0) else (z_Score, 3) else (z_Score, 4) else (z_Score, 2) else (z_Score, 1)
end Go.Sx
/- A score compiled, plainly. -/
set_option linter.unusedVariables false
set_option linter.unusedSimpArgs false
namespace Go.Sx

/-- The lines of a text: the last one may be ended or not. -/
def scoreL (t : List UInt8) : List (List UInt8) := if (cutL 10 t)[(cutL 10 t).length - 1]! = [] then (cutL 10 t).take ((cutL 10 t).length - 1) else cutL 10 t
def start0 : GComp := ⟨1194083328, equalT 1138491392 12, [], [], 0, []⟩
def runS (ls : List (List UInt8)) : Except (Nat × Int) GComp := (crun ls (cost ls.length start0 0 + 1) start0 0).getD (.ok start0)
theorem line_next {s s' : GComp} {p p' : Nat} {ws : List (List UInt8)} (hp : p < 100000) (I : CInv s) (e : s.line p ws = .ok (s', p')) : p' ≤ 100001 := by
  unfold GComp.line at e
  have goto : ∀ {m : Int}, 0 ≤ m → s.goto p m = .ok (s', p') → p' ≤ 100001 := fun {m} h0 e => by
    unfold GComp.goto at e
    rcases cond_ok e with ⟨_, e⟩ | ⟨h1, e⟩
    · cases e
    · cases e; omega
  have sound : ∀ {k : Int}, s.sound p k ws = .ok (s', p') → p' ≤ 100001 := fun {k} e => by
    unfold GComp.sound at e
    split at e
    · rcases cond_ok e with ⟨_, e⟩ | ⟨_, e⟩
      · unfold GComp.add at e
        rcases cond_ok e with ⟨hx, e⟩ | ⟨_, e⟩
        · rcases cond_ok e with ⟨_, e⟩ | ⟨hn, e⟩
          · cases e
          · rcases cond_ok e with ⟨h6, e⟩ | ⟨_, e⟩
            · cases e; omega
            · cases e
        · cases e
      · cases e
    · cases e
  rcases cond_ok e with ⟨_, e⟩ | ⟨_, e⟩
  · obtain ⟨m, _, e⟩ := word_ok e
    unfold GComp.setRate at e
    rcases cond_ok e with ⟨_, e⟩ | ⟨_, e⟩
    · rcases cond_ok e with ⟨_, e⟩ | ⟨_, e⟩
      · cases e; omega
      · cases e
    · cases e
  rcases cond_ok e with ⟨_, e⟩ | ⟨_, e⟩
  · split at e
    · unfold GComp.setTune at e
      rcases cond_ok e with ⟨_, e⟩ | ⟨_, e⟩
      · rcases cond_ok e with ⟨_, e⟩ | ⟨_, e⟩
        · cases e; omega
        · cases e
      · cases e
    · cases e
  rcases cond_ok e with ⟨_, e⟩ | ⟨_, e⟩
  · exact sound e
  rcases cond_ok e with ⟨_, e⟩ | ⟨_, e⟩
  · exact sound e
  rcases cond_ok e with ⟨_, e⟩ | ⟨_, e⟩
  · exact sound e
  rcases cond_ok e with ⟨_, e⟩ | ⟨_, e⟩
  · obtain ⟨m, _, e⟩ := word_ok (f := fun m => s.goto p (m : Int)) e; exact goto (by omega) e
  rcases cond_ok e with ⟨_, e⟩ | ⟨_, e⟩
  · obtain ⟨m, _, e⟩ := word_ok (f := fun m => s.goto p (s.now + (m : Int))) e; exact goto (by have := I.n0; omega) e
  rcases cond_ok e with ⟨_, e⟩ | ⟨_, e⟩
  · unfold GComp.playL at e
    split at e
    · rename_i key force long h1 h2 h3
      rcases cond_ok e with ⟨_, e⟩ | ⟨_, e⟩
      · unfold GComp.note at e
        rcases cond_ok e with ⟨_, e⟩ | ⟨hk, e⟩
        · cases e
        · rcases cond_ok e with ⟨_, e⟩ | ⟨hn, e⟩
          · cases e
          · rcases cond_ok e with ⟨h64, e⟩ | ⟨_, e⟩
            · cases e; omega
            · cases e
      · cases e
    · cases e
  rcases cond_ok e with ⟨_, e⟩ | ⟨_, e⟩
  · obtain ⟨m, _, e⟩ := word_ok e
    unfold GComp.open_ at e
    rcases cond_ok e with ⟨hm, e⟩ | ⟨_, e⟩
    · rcases cond_ok e with ⟨_, e⟩ | ⟨h3, e⟩
      · cases e
      · cases e; omega
    · cases e
  rcases cond_ok e with ⟨_, e⟩ | ⟨_, e⟩
  · unfold GComp.close at e
    rcases cond_ok e with ⟨_, e⟩ | ⟨h0, e⟩
    · cases e
    · have h1 : 1 ≤ s.loops.length := List.length_pos_iff.2 h0
      have hx := I.each s.loops[s.loops.length - 1]! (by rw [getElem!_pos s.loops _ (by omega)]; exact List.getElem_mem _)
      rcases cond_ok e with ⟨_, e⟩ | ⟨_, e⟩
      · cases e; omega
      · cases e; have := hx.1; omega
  · cases e
theorem start_loops (n : Nat) : Loops n 0 start0.loops := ⟨Nat.zero_le _, (fun x hx => by cases hx), List.Pairwise.nil⟩
theorem runS_spec (ls : List (List UInt8)) : crun ls (cost ls.length start0 0 + 1) start0 0 = some (runS ls) := by
  obtain ⟨r, e⟩ := crun_ends (cost ls.length start0 0 + 1) start0 0 (start_loops ls.length) (Nat.lt_succ_self _)
  unfold runS
  rw [e]; rfl
theorem start_inv : CInv start0 := ⟨Nat.zero_le _, rfl, Nat.zero_le _, by decide, by decide, Nat.zero_le _, (fun x hx => by cases hx), by show (List.map _ (List.range _)).length ≤ 31; rw [List.length_map, List.length_range]; decide⟩
noncomputable def GComp.score (s : GComp) : GScore := ⟨s.rate, s.tune, s.kinds, ordE s.notes⟩
noncomputable def endS (n : Nat) : Except (Nat × Int) GComp → GScore × Int × Int
  | .ok s => if s.loops = [] then (s.score, 0, 0) else (z_Score, n, 4)
  | .error (p, e) => (z_Score, p, e)
noncomputable def compileS (t : List UInt8) : GScore × Int × Int := if 4000 < t.length ∨ 200 < (scoreL t).length then (z_Score, 0, 2) else endS (scoreL t).length (runS (scoreL t))
/-- How the run goes on, as far as a loop needs it. -/
structure RunAt (ls : List (List UInt8)) (f p : Nat) (s : GComp) : Prop where
  I : CInv s
  lp : Loops ls.length p s.loops
  fuel : cost ls.length s p < f
  run : crun ls f s p = some (runS ls)
theorem crun_inv {ls : List (List UInt8)} (hn : ls.length ≤ 1000) : ∀ (f : Nat) {s s' : GComp} {p : Nat}, CInv s → crun ls f s p = some (.ok s') → CInv s'
  | 0, s, s', p, I, h => by cases h
  | f + 1, s, s', p, I, h => by
    unfold crun at h
    by_cases hp : p < ls.length
    · rw [if_pos hp] at h
      cases e : s.line p (cutL 32 ls[p]!) with
      | error c => rw [e] at h; cases h
      | ok r =>
        obtain ⟨t, q⟩ := r
        rw [e] at h
        exact crun_inv hn f (line_inv (by omega) I e) h
    · rw [if_neg hp] at h
      cases h
      exact I
theorem runS_inv {ls : List (List UInt8)} (hn : ls.length ≤ 1000) {s : GComp} (h : runS ls = .ok s) : CInv s := crun_inv hn _ start_inv ((runS_spec ls).trans (by rw [h]))
section
variable {ls : List (List UInt8)} {f p p' : Nat} {s s' : GComp} {e : Int}
theorem RunAt.start : RunAt ls (cost ls.length start0 0 + 1) 0 start0 := ⟨start_inv, start_loops _, Nat.lt_succ_self _, runS_spec ls⟩
theorem RunAt.pos (R : RunAt ls f p s) : ∃ g, f = g + 1 := by
  cases f with
  | zero => exact absurd R.fuel (Nat.not_lt_zero _)
  | succ g => exact ⟨g, rfl⟩
theorem RunAt.next (R : RunAt ls f p s) (hn : ls.length ≤ 1000) (hp : p < ls.length) (h : s.line p (cutL 32 ls[p]!) = .ok (s', p')) : ∃ g, f = g + 1 ∧ RunAt ls g p' s' := by
  obtain ⟨g, rfl⟩ := R.pos
  obtain ⟨L', hc⟩ := line_cost hp R.lp h
  have := R.fuel
  refine ⟨g, rfl, line_inv (by omega) R.I h, L', by omega, ?_⟩
  have := R.run
  unfold crun at this
  rw [if_pos hp, h] at this
  exact this
theorem RunAt.bad (R : RunAt ls f p s) (hp : p < ls.length) (h : s.line p (cutL 32 ls[p]!) = .error e) : runS ls = .error (p, e) := by
  obtain ⟨g, rfl⟩ := R.pos
  have := R.run
  unfold crun at this
  rw [if_pos hp, h] at this
  exact (Option.some.inj this).symm
theorem RunAt.done (R : RunAt ls f p s) (hp : ¬ p < ls.length) : runS ls = .ok s := by
  obtain ⟨g, rfl⟩ := R.pos
  have := R.run
  unfold crun at this
  rw [if_neg hp] at this
  exact (Option.some.inj this).symm
end
end Go.Sx
/- Events of notes, sorted by the rule. -/
set_option linter.unusedVariables false
set_option linter.unusedSimpArgs false
namespace Go.Sx
open Go.Proofs
set_option maxRecDepth 100000
set_option maxHeartbeats 1000000

theorem flat_Note : Flat rNote := flat_via (flat_seq (flat_I _) (flat_seq (flat_I _) (flat_seq (flat_I _) (flat_seq (flat_I _) (flat_F _)))))
theorem ow_rd {α : Type} {r : Rep α} {vs : List Value} {a : α} {h : Heap} (O : r.ow [] vs a) : r.rd h vs a := r.look O (Mem.start h) (List.Sublist.refl _)
abbrev startV (i : Nat) (n : GNote) (r : Nat) : Array Value := ⟨[.int .i64 n.At, .int .i64 2, .int .i64 i, .int .i64 n.Instrument, .int .i64 n.Key, .float .f32 r]⟩
abbrev stopV (i : Nat) (n : GNote) : Array Value := ⟨[.int .i64 n.End, .int .i64 1, .int .i64 i, .int .i64 0, .int .i64 0, .float .f32 0]⟩
/-- The state of the rule's sorting: own events and own keys. -/
structure SortS (h hh : Heap) (ns : List GNote) (n : Nat) (ob : Option Addr) (oc : Nat) (kb : Option Addr) (kc : Nat) (l : List GEvent) (B1 B2 : List Blk) : Prop where
  M : Mem h hh (B1 ++ B2)
  O : SlO T_impl_Event rEvent B1 ob n oc l
  K : SlO T_4_int64 rKey B2 kb n kc (l.map (keyN ns))
section
variable {h : Heap}
theorem compiled_sort {ns : List GNote} {n : Nat} {ob kb : Option Addr} {oc kc : Nat} {l : List GEvent} {B1 B2 : List Blk} {hh : Heap} (hn : n ≤ 128) (hl : l.length = n) (S : SortS h hh ns n ob oc kb kc l B1 B2) (hp : l.Perm (evsOf ns)) :
    LOOP (spec_l08Compiled.B12 (fun u h' => ∃ b c B l, u = .slice b n c ∧ SlO T_impl_Event rEvent B b n c l ∧ Sorted ns l ∧ Mem h h' B)) (ob, n, oc, kb, n, kc, (1 : Int)) hh := by
  refine loop (fun y hh => ∃ i l B1 B2, y = (ob, n, oc, kb, n, kc, ((i : Nat) : Int)) ∧ 1 ≤ i ∧ l.length = n ∧ SortS h hh ns n ob oc kb kc l B1 B2 ∧ UpTo ns i l)
    (fun y => ((n : Int) - y.2.2.2.2.2.2).toNat) ⟨1, l, B1, B2, rfl, by omega, hl, S, UpTo.start hp⟩ ?_
  clear S hp hl
  rintro y hh ⟨i, l, B1, B2, rfl, hi, hl, S, U⟩
  refine brd (fun hc => ?_) fun hc => ⟨ob, oc, B1, l, rfl, S.O, U.sorted (by omega), S.M.sub (List.sublist_append_left _ _)⟩
  have hin : i < n := by omega
  refine loop (fun y hh => ∃ k l B1 B2, y = (ob, n, oc, kb, n, kc, ((i : Nat) : Int), ((k : Nat) : Int)) ∧ l.length = n ∧ SortS h hh ns n ob oc kb kc l B1 B2 ∧ Sink ns i k l)
    (fun y => y.2.2.2.2.2.2.2.toNat) ⟨i, l, B1, B2, rfl, hl, S, U.sink (by omega)⟩ ?_
  clear S U hl
  rintro y hh ⟨k, l, B1, B2, rfl, hl, S, K⟩
  have hki := K.hk
  have done : ∀ {h' : Heap} {l : List GEvent} {B1 B2 : List Blk}, l.length = n → SortS h h' ns n ob oc kb kc l B1 B2 → UpTo ns (i + 1) l →
      ((∃ i' l B1 B2, (ob, n, oc, kb, n, kc, IntKind.i64.wrap ((i : Int) + 1)) = (ob, n, oc, kb, n, kc, ((i' : Nat) : Int)) ∧ 1 ≤ i' ∧ l.length = n ∧ SortS h h' ns n ob oc kb kc l B1 B2 ∧ UpTo ns i' l) ∧
      ((n : Int) - IntKind.i64.wrap ((i : Int) + 1)).toNat < ((n : Int) - i).toNat) := fun hl S U =>
    ⟨⟨i + 1, _, _, _, by rw [wrap64_succ (by omega)], by omega, hl, S, U⟩, by rw [wrap64_succ (by omega)]; omega⟩
  refine brd (fun hk => ?_) fun hk => done hl S (K.done (.inl (by omega)))
  have hk0 : 0 < k := by omega
  have hkn : k < n := by omega
  have e1 : IntKind.i64.wrap ((k : Int) - 1) = ((k - 1 : Nat) : Int) := by rw [wrap64 (by omega) (by omega)]; omega
  rw [e1]
  have SK := S.K.look S.M (List.sublist_append_right _ _)
  have em : ∀ j, j < n → (l.map (keyN ns))[j]! = keyN ns l[j]! := fun j hj => by
    rw [getElem!_pos _ j (by rw [List.length_map]; omega), List.getElem_map, getElem!_pos l j (by omega)]
  refine SK.idn (by decide) hkn fun a Ra => Ra.lda1 rfl fun c1 R1 => SK.idn (by decide) (show k - 1 < n by omega) fun a' Ra' => Ra'.lda1 rfl fun c2 R2 => ?_
  rw [em k hkn] at R1
  rw [em (k - 1) (by omega)] at R2
  rw [key_agg R1, key_agg R2]
  refine goX (l08Less_c rfl rfl) fun h2 x2 => as_b (br (fun hb => ?_) fun hb => done hl ⟨S.M.grow x2, S.O, S.K⟩ (K.done (.inr hb)))
  unfold spec_l08Compiled.J17
  rw [e1]
  refine S.O.swap (S.M.grow x2) flat_Event hk0 hkn rfl ev_sz rfl fun h3 B3 O3 M3 => ?_
  refine S.K.swap (L := B3) (M3.perm List.perm_append_comm) flat_Key hk0 hkn rfl (by decide) rfl fun h4 B4 K4 M4 => ?_
  refine ⟨⟨k - 1, swpL l k, B3, B4, rfl, by rw [swp_len, hl], ⟨M4.perm List.perm_append_comm, O3, ?_⟩, K.swap hk0 hb⟩, by show (k - 1 : Nat) < _; simp; omega⟩
  rw [swp_map (keyN ns) hk0 (by omega)]
  exact K4
theorem l08Compiled_c {nb : Option Addr} {nc n : Nat} {ns : List GNote} (S0 : SlR rNote h nb n nc ns) (hn : n ≤ 64) :
    CALL prg f_spec_l08Compiled #[.slice nb n nc] (fun u h' => ∃ b c B l, u = .slice b (2 * n) c ∧ SlO T_impl_Event rEvent B b (2 * n) c l ∧ Sorted ns l ∧ Mem h h' B) h := by
  have hl : ns.length = n := S0.len
  have hmx : 128 ≤ maxLen := by decide
  refine spec_l08Compiled.call ((Mem.start h).alc fun g1 h1 x1 M1 => M1.alc fun g3 h2 x2 M2 => ?_)
  refine loop (fun y hh => ∃ i m ob oc kb kc B1 B2, y = (nb, n, nc, ob, m, oc, kb, m, kc, ((i : Nat) : Int)) ∧ i ≤ n ∧ m = 2 * i ∧ Mem h hh (B1 ++ B2) ∧ SlO T_impl_Event rEvent B1 ob m oc (evsOf (ns.take i)) ∧ SlO T_4_int64 rKey B2 kb m kc ((evsOf (ns.take i)).map (keyN ns)))
    (fun y => ((n : Int) - y.2.2.2.2.2.2.2.2.2).toNat) ⟨0, 0, _, _, _, _, [_], [_], rfl, by omega, rfl, M2.perm (List.Perm.swap _ _ _), SlO.empty g1, SlO.empty g3⟩ ?_
  clear M1 M2
  rintro y hh ⟨i, m, ob, oc, kb, kc, B1, B2, rfl, hi, hm, M, O, K⟩
  refine brd (fun hc => ?_) fun hc => ?_
  · have hin : i < n := by omega
    refine (S0.ext M.ext).idn (by decide) hin fun a Ra => Ra.lda1 rfl fun c5 R5 => ?_
    have O5 : rNote.ow [] c5.toList ns[i]! := flat_Note _ _ _ R5
    refine M.alc fun g9 h10 x10 M => M.sta0 .here (rsz R5 rfl) (rNote.rone R5) rfl .here fun h11 M => ?_
    have E : RdP rNote h11 ⟨g9, 0, none⟩ ns[i]! := M.rdp .here (ow_rd O5)
    refine E.oI2 (E.oI2 (E.oI2 (E.oF2 fun r hr => ?_)))
    have hz : FW .f32 0 0 := fw_c32 (by decide) (by decide)
    have Os : rEvent.ow [] (startV i ns[i]! r).toList (startE i ns[i]!) := event_ow hr
    have Op : rEvent.ow [] (stopV i ns[i]!).toList (stopE i ns[i]!) := event_ow hz
    refine M.alc fun g16 h17 x17 M => M.sta0 .here (vs := startV i ns[i]! r) rfl (rEvent.oone (B := []) Os) rfl .here fun h18 M => ?_
    have E : RdP rNote h18 ⟨g9, 0, none⟩ ns[i]! := M.rdp (.there .here) (ow_rd O5)
    refine E.oI2 (M.alc fun g20 h21 x21 M => M.sta0 .here (vs := stopV i ns[i]!) rfl (rEvent.oone (B := []) Op) rfl .here fun h22 M => ?_)
    refine M.lda0 (.there .here) rfl (M.lda0 .here rfl (siz rfl (siz rfl ?_)))
    refine push2_own (L := (g20, T_impl_Event, stopV i ns[i]!) :: (g16, T_impl_Event, startV i ns[i]! r) :: (g9, T_spec_l08Note, c5) :: B2) E_sl_impl_Event O (M.cnt fun p => by simp only [cnt_app, cnt_cons, cnt_nil]; omega) ⟨[], [], _, _, rfl, rfl, Os, [], [], _, [], rfl, rfl, Op, rfl, rfl⟩ (by omega) (by show (m + 2) * 48 ≤ _; omega) fun b' c' h28 B1' O' M => as_l ?_
    have M := M.cnt (W := (g20, T_impl_Event, stopV i ns[i]!) :: (g16, T_impl_Event, startV i ns[i]! r) :: (g9, T_spec_l08Note, c5) :: (B1' ++ B2)) fun p => by simp only [cnt_app, cnt_cons, cnt_nil]; omega
    have E : RdP rNote h28 ⟨g9, 0, none⟩ ns[i]! := M.rdp (.there (.there .here)) (ow_rd O5)
    refine E.oI2 (E.oI2 (goX (l08Key_c (M.rdp (.there .here) (ow_rd Os)) _) fun h33 x33 => as_a (E.pin0 (by decide) x33 ?_)))
    have M := M.grow x33
    refine goM M (l08Key_c (M.rdp .here (ow_rd Op)) _) fun h36 M => as_a (siz (keyV_size _) (siz (keyV_size _) ?_))
    have Ky : ows rKey [] ((keyV (keyN ns (startE i ns[i]!))).toList ++ (keyV (keyN ns (stopE i ns[i]!))).toList) [keyN ns (startE i ns[i]!), keyN ns (stopE i ns[i]!)] := ⟨[], [], _, _, rfl, rfl, ⟨rfl, rfl, rfl⟩, [], [], _, [], rfl, (List.append_nil _).symm, ⟨rfl, rfl, rfl⟩, rfl, rfl⟩
    refine push2_own (L := (g20, T_impl_Event, stopV i ns[i]!) :: (g16, T_impl_Event, startV i ns[i]! r) :: (g9, T_spec_l08Note, c5) :: B1') E_sl_4_int64 K (M.cnt fun p => by simp only [cnt_app, cnt_cons, cnt_nil]; omega) Ky (by omega) (by show (m + 2) * 32 ≤ _; omega) fun b2 c2 h41 B2' K' M => as_l ?_
    have e1 : ns.take (i + 1) = ns.take i ++ [ns[i]!] := take_snoc (by omega)
    have e2 : (ns.take i).length = i := by rw [List.length_take]; omega
    refine ⟨⟨i + 1, m + 2, b', c', b2, c2, B1', B2', by rw [wrap64_succ (by omega)], by omega, by omega, M.cnt fun p => by simp only [cnt_app, cnt_cons, cnt_nil]; omega, ?_, ?_⟩, by rw [wrap64_succ (by omega)]; show ((n : Int) - ((i + 1 : Nat) : Int)).toNat < ((n : Int) - (i : Int)).toNat; omega⟩
    · rw [e1, evsOf_snoc, e2]; exact O'
    · rw [e1, evsOf_snoc, e2, List.map_append]; exact K'
  · obtain rfl : i = n := by omega
    subst hm
    rw [show ns.take i = ns by rw [← hl, List.take_length]] at O K
    exact compiled_sort (by omega) (by rw [evsOf_len, hl]) ⟨M, O, K⟩ (List.Perm.refl _)
end
end Go.Sx
