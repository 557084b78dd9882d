/- Elements of own slices set and exchanged; notes of a score; events of notes, sorted by the rule. -/
import Derived.Test.YtnhcoeogejgidacGreatDoorLks
import Derived.Test.YtnhcoeogejgidacGreatDoorLm14
import Derived.Test.YtnhcoeogejgidacGreatDoorLkm
import Derived.Test.YtnhcoeogejgidacGreatDoorLk37
import Derived.Test.YtnhcoeogejgidacGreatDoorLk25
import Derived.Test.YtnhcoeogejgidacGreatDoorLk24
import Derived.Test.YtnhcoeogejgidacGreatDoorLh0
set_option linter.unusedVariables false
set_option linter.unusedSimpArgs false
namespace Go.Sx
open Go.Proofs
set_option maxRecDepth 100000
set_option maxHeartbeats 1000000

section
variable {β : Type} [Inhabited β] {s : Rep β} {P : Program} {h0 h : Heap} {B L : List Blk} {b : Option Addr} {e l c n i k t ty bytes : Nat} {els : List β}
/-- An element of an own slice set. -/
theorem SlO.setF {vs : Array Value} {x : β} {K : Heap → Prop} (O : SlO e s B b l c els) (M : Mem h0 h (B ++ L)) (hi : i < l) (hn : s.sz = n) (Ox : s.ow [] vs.toList x)
    (H : ∀ h' B', SlO e s B' b l c (els.set i x) → Mem h0 h' (B' ++ L) → K h') : IDXS b (i : Int) l fun p => STA n h (p.add ((i : Int).toNat * s.sz)) vs K := by
  obtain ⟨a0, F', L', rfl, P, hs, close⟩ := O.elem M hi
  refine idxs (by omega) (by omega) ?_
  rw [Int.toNat_natCast]
  refine P.sts0 (B' := []) (Foc.here s) hn Ox fun h' P' => ?_
  obtain ⟨B', O', M'⟩ := close _ _ _ P'
  exact H h' B' O' M'
/-- Two neighbours of an own slice exchanged, by a local copy. -/
theorem SlO.swap {z : Array Value} {T : Nat} {K : Heap → Prop} (O : SlO e s B b l c els) (M : Mem h0 h (B ++ L)) (hf : Flat s) (hk0 : 0 < k) (hk : k < l) (hn : s.sz = n) (hp : 0 < s.sz) (hz : z.size = n)
    (H : ∀ h' B', SlO e s B' b l c (swpL els k) → Mem h0 h' (B' ++ L) → K h') :
    IDXS b (k : Int) l fun p => LDA n h (p.add ((k : Int).toNat * s.sz)) fun a => ALC z T (fun g h1 => STA n h1 ⟨g, 0, none⟩ a fun h2 => IDXS b ((k - 1 : Nat) : Int) l fun p => LDA n h2 (p.add (((k - 1 : Nat) : Int).toNat * s.sz)) fun a =>
      IDXS b (k : Int) l fun p => STA n h2 (p.add ((k : Int).toNat * s.sz)) a fun h3 => LDA n h3 ⟨g, 0, none⟩ fun a => IDXS b ((k - 1 : Nat) : Int) l fun p => STA n h3 (p.add (((k - 1 : Nat) : Int).toNat * s.sz)) a K) h := by
  have S := O.look M (List.sublist_append_left _ _)
  refine S.idn hp hk fun a Ra => Ra.lda1 hn fun c1 R1 => M.alc fun g h1 x1 M1 => M1.sta0 .here (rsz R1 hn) (s.rone R1) hz .here fun h2 M2 => ?_
  have S2 := O.look M2 ((List.sublist_append_left _ _).trans (List.sublist_cons_self _ _))
  refine S2.idn hp (show k - 1 < l by omega) fun a' Ra' => Ra'.lda1 hn fun c2 R2 => ?_
  have M3 : Mem h0 h2 (B ++ ((g, T, c1) :: L)) := M2.perm List.perm_middle.symm
  refine O.setF M3 hk hn (hf _ _ _ R2) fun h3 B3 O3 M4 => ?_
  refine (M4.perm List.perm_middle).lda0 .here (rsz R1 hn) ?_
  exact O3.setF M4 (show k - 1 < l by omega) hn (hf _ _ _ R1) fun h4 B4 O4 M6 => H h4 B4 O4 (M6.sub (List.Sublist.append (List.Sublist.refl _) (List.sublist_cons_self _ _)))
end
section
variable {β : Type} {s : Rep β} {P : Program} {h0 h : Heap} {B L : List Blk} {b : Option Addr} {e l c n i k t ty bytes : Nat} {els : List β}
/-- Two elements appended, which have been laid in a block. -/
theorem push2_own {cs : Array Value} {x y : β} {K : Value → Heap → Prop} (E : ElemT P t e s.sz bytes) (O : SlO e s B b l c els) (M : Mem h0 h (B ++ L)) (Ox : ows s [] cs.toList [x, y]) (hmax : l + 2 ≤ maxLen) (hbytes : (l + 2) * bytes ≤ 140737488355328)
    (H : ∀ b' c' h' B', SlO e s B' b' (l + 2) c' (els ++ [x, y]) → Mem h0 h' (B' ++ L) → K (.slice b' (l + 2) c') h') :
    ALC cs e (fun g h => SEMV P (Builtin.append_ #[t, t] ty #[.slice b l c, .slice (some ⟨g, 0, none⟩) 2 2]) K h) h := by
  refine M.alc fun g h1 x1 M1 => ?_
  have M2 : Mem h0 h1 (B ++ ([] ++ ((g, e, cs) :: L))) := M1.perm List.perm_middle.symm
  refine O.app (news := cs.toList) E M2 (ys := [x, y]) rfl Ox (fun j v hj => ?_) hmax hbytes fun b' c' h' B' O' M' => H b' c' h' B' O' (M'.sub (List.Sublist.append (List.Sublist.refl _) (List.sublist_cons_self _ _)))
  rw [add_none, Nat.zero_add, M1.cell .here, ← hj, Array.getElem?_toList]
end
/-- Four numbers. -/
def rKey : Rep (List Int) where
  sz := 4
  rd _ vs a := a.length = 4 ∧ vs = (keyV a).toList
  ow B vs a := B = [] ∧ a.length = 4 ∧ vs = (keyV a).toList
  rlen h := by obtain ⟨h1, rfl⟩ := h; rw [Array.length_toList, keyV_size, h1]
  olen h := by obtain ⟨_, h1, rfl⟩ := h; rw [Array.length_toList, keyV_size, h1]
  ext _ h := h
  look h _ _ := h.2
  rone h v hv := by obtain ⟨_, rfl⟩ := h; exact keyV_one _ v hv
  oone h v hv := by obtain ⟨_, _, rfl⟩ := h; exact keyV_one _ v hv
theorem flat_Key : Flat rKey := fun h vs a e => ⟨rfl, e⟩
theorem key_agg {h : Heap} {cs : Array Value} {a : List Int} (R : rKey.rd h cs.toList a) : cs = keyV a := by
  obtain ⟨_, e⟩ := R
  exact Array.toList_inj.1 e
theorem note_ow {a e i k : Int} {x f : Nat} (hf : FW .f32 x f) : rNote.ow [] [.int .i64 a, .int .i64 e, .int .i64 i, .int .i64 k, .float .f32 x] ⟨a, e, i, k, f⟩ :=
  ⟨[], [], [_], [_, _, _, _], rfl, rfl, ⟨rfl, rfl⟩, [], [], [_], [_, _, _], rfl, rfl, ⟨rfl, rfl⟩, [], [], [_], [_, _], rfl, rfl, ⟨rfl, rfl⟩, [], [], [_], [_], rfl, rfl, ⟨rfl, rfl⟩, rfl, x, rfl, hf⟩
theorem event_ow {a k n i y : Int} {x f : Nat} (hf : FW .f32 x f) : rEvent.ow [] [.int .i64 a, .int .i64 k, .int .i64 n, .int .i64 i, .int .i64 y, .float .f32 x] ⟨a, k, n, i, y, f⟩ :=
  ⟨[], [], [_], [_, _, _, _, _], rfl, rfl, ⟨rfl, rfl⟩, [], [], [_], [_, _, _, _], rfl, rfl, ⟨rfl, rfl⟩, [], [], [_], [_, _, _], rfl, rfl, ⟨rfl, rfl⟩, [], [], [_], [_, _], rfl, rfl, ⟨rfl, rfl⟩, [], [], [_], [_], rfl, rfl, ⟨rfl, rfl⟩, rfl, x, rfl, hf⟩
section
variable {h : Heap}
theorem half_wrap {l : Nat} (h : l ≤ 4294967296) : IntKind.i64.wrap (Int.tdiv (l : Int) 2) = ((l / 2 : Nat) : Int) := by
  rw [show Int.tdiv (l : Int) 2 = ((l / 2 : Nat) : Int) from rfl, wrap64 (by omega) (by omega)]
theorem l08Notes_c {q : Addr} {s : GScore} (R : RdP rScore h q s) (hok : s.ok = true) :
    CALL prg f_spec_l08Notes #[.pointer (some q)] (fun u h' => ∃ g B c ns, u = .slice (some ⟨g, 0, none⟩) (s.Events.length / 2) c ∧ SlO T_spec_l08Note rNote B (some ⟨g, 0, none⟩) (s.Events.length / 2) c ns ∧ NInv s.Events s.Events.length ns ∧ Mem h h' B) h := by
  have hlen := (score_small hok).2.2
  have G := score_ev hok
  refine spec_l08Notes.call ?_
  refine R.oL (off := 5) fun b l c S => nz (by decide) ?_
  have hl : s.Events.length = l := S.len
  rw [half_wrap (by omega)]
  refine make_sl (r := rNote) (z := z_Note) (zc := Z_spec_l08Note) zow_Note rfl rfl (by decide) (Mem.start h) (by show 40 * (l / 2) ≤ 2 ^ 48; omega) (Nat.le_trans (show l / 2 ≤ 64 by omega) (by decide)) fun g h1 x1 M0 O0 => ?_
  rw [Int.toNat_natCast]
  refine loop (fun y hh => ∃ i B ns, y = (q, (some ⟨g, 0, none⟩ : Option Addr), l / 2, l / 2, ((i : Nat) : Int)) ∧ i ≤ l ∧ Mem h hh B ∧ SlO T_spec_l08Note rNote B (some ⟨g, 0, none⟩) (l / 2) (l / 2) ns ∧ NInv s.Events i ns)
    (fun y => ((l : Int) - y.2.2.2.2).toNat) ⟨0, _, _, rfl, by omega, M0, O0, NInv.zero (by rw [List.length_replicate, hl])⟩ ?_
  rintro y hh ⟨i, B, ns, rfl, hi, M, O, I⟩
  have R := R.ext M.ext
  refine R.oL (off := 5) fun b' l' c' S' => ?_
  obtain rfl : s.Events.length = l' := S'.len
  subst hl
  refine brd (fun hc => ?_) fun hc => ?_
  · have hi' : i < s.Events.length := by omega
    refine R.oL (off := 5) fun b' l' c' S' => ?_
    obtain rfl : s.Events.length = l' := S'.len
    refine S'.idn ev_sz hi' fun a Ra => Ra.lda1 rfl fun ce Re => localR Re rfl rfl fun g2 h8 x8 E => E.oI2 ?_
    have nt := G.note i hi'
    have en : ((s.Events[i]!.Note.toNat : Nat) : Int) = s.Events[i]!.Note := Int.toNat_of_nonneg nt.1
    have hb : s.Events[i]!.Note.toNat < s.Events.length / 2 := by omega
    have M8 : Mem h h8 (B ++ []) := by rw [List.append_nil]; exact M.grow x8
    have next : ∀ {h' : Heap} {B' : List Blk} {ns' : List GNote}, SlO T_spec_l08Note rNote B' (some ⟨g, 0, none⟩) (s.Events.length / 2) (s.Events.length / 2) ns' → Mem h h' (B' ++ []) → NInv s.Events (i + 1) ns' →
        ((∃ i' B ns, (q, (some ⟨g, 0, none⟩ : Option Addr), s.Events.length / 2, s.Events.length / 2, IntKind.i64.wrap ((i : Int) + 1)) = (q, (some ⟨g, 0, none⟩ : Option Addr), s.Events.length / 2, s.Events.length / 2, ((i' : Nat) : Int)) ∧ i' ≤ s.Events.length ∧ Mem h h' B ∧ SlO T_spec_l08Note rNote B (some ⟨g, 0, none⟩) (s.Events.length / 2) (s.Events.length / 2) ns ∧ NInv s.Events i' ns) ∧
        ((s.Events.length : Int) - IntKind.i64.wrap ((i : Int) + 1)).toNat < ((s.Events.length : Int) - i).toNat) := fun O' M' I' =>
      ⟨⟨i + 1, _, _, by rw [wrap64_succ (by omega)], by omega, by rwa [List.append_nil] at M', O', I'⟩, by rw [wrap64_succ (by omega)]; omega⟩
    refine br (fun k => ?_) fun k => ?_
    · have hst : isSt s.Events[i]! = true := k
      refine E.oI2 (E.oI2 (E.oI2 (E.oI2 (E.oF2 fun r hr => ?_))))
      rw [← en]
      exact O.setF M8 hb rfl (note_ow hr) fun h9 B' O' M' => next O' M' (I.start G hi' hst)
    · have hsp : isSp s.Events[i]! = true := by
        rcases kind_of (G.part i hi') with h | h
        · exact h.1
        · have h1 := h.1; rw [show isSt s.Events[i]! = false from k] at h1; cases h1
      refine E.oI2 (E.oI2 ?_)
      rw [← en]
      obtain ⟨a0, F', L', e0, P, hs, close⟩ := O.elem M8 hb
      cases e0
      refine idxs (by omega) (by omega) ?_
      rw [Int.toNat_natCast]
      refine P.stI (off := 1) fun h9 P' => ?_
      obtain ⟨B', O', M'⟩ := close _ _ _ P'
      exact next O' M' (I.stop G hi' hsp)
  · obtain rfl : i = s.Events.length := by omega
    exact ⟨g, B, _, ns, rfl, O, I, M⟩
end
end Go.Sx
/- Sorted events of sound notes are good events, plainly. -/
set_option linter.unusedVariables false
set_option linter.unusedSimpArgs false
namespace Go.Sx

structure NoteOk (ni : Int) (n : GNote) : Prop where
  at0 : 0 ≤ n.At
  le : n.At ≤ n.End
  end_ : n.End ≤ 100000
  ins : 0 ≤ n.Instrument ∧ n.Instrument < ni
  key : -100 ≤ n.Key ∧ n.Key ≤ 100
  force : fin n.Force = true
structure NotesOk (ni : Int) (ns : List GNote) : Prop where
  len : ns.length ≤ 64
  each : ∀ n ∈ ns, NoteOk ni n
section
variable {ns : List GNote} {l : List GEvent} {ni : Int}
theorem NotesOk.get (N : NotesOk ni ns) {k : Nat} (hk : k < ns.length) : NoteOk ni ns[k]! := N.each _ (by rw [getElem!_pos ns k hk]; exact List.getElem_mem hk)
theorem startE_part {k : Nat} {n : GNote} (N : NoteOk ni n) : evPart ni (startE k n) = true := by
  have h1 := N.at0; have h2 := N.le; have h3 := N.end_; have h4 := N.ins; have h5 := N.key
  unfold evPart startE inR
  rw [if_neg (by show ¬ (2 : Int) = 1; decide)]
  simp only [Bool.and_eq_true, decide_eq_true_eq, beq_iff_eq, N.force]
  refine ⟨⟨h1, by omega⟩, ⟨⟨trivial, ?_⟩, ?_⟩, trivial⟩ <;> omega
theorem stopE_part {k : Nat} {n : GNote} (N : NoteOk ni n) : evPart ni (stopE k n) = true := by
  have h1 := N.at0; have h2 := N.le; have h3 := N.end_
  unfold evPart stopE inR
  rw [if_pos (by show (1 : Int) = 1; decide)]
  simp only [Bool.and_eq_true, decide_eq_true_eq, beq_iff_eq]
  refine ⟨⟨by omega, h3⟩, ⟨trivial, trivial⟩, trivial⟩
section
variable (S : Sorted ns l)
include S
theorem Sorted.at_mem {i : Nat} (hi : i < l.length) : ∃ k, k < ns.length ∧ (l[i]! = startE k ns[k]! ∨ l[i]! = stopE k ns[k]!) :=
  evsOf_mem.1 (S.perm.mem_iff.1 (by rw [getElem!_pos l i hi]; exact List.getElem_mem hi))
theorem Sorted.nodup : l.Nodup := S.perm.nodup_iff.2 (evsOf_nodup ns)
theorem Sorted.len : l.length = 2 * ns.length := by rw [S.perm.length_eq, evsOf_len]
theorem Sorted.inj {i j : Nat} (hi : i < l.length) (hj : j < l.length) (h : l[i]! = l[j]!) : i = j := by
  rw [getElem!_pos l i hi, getElem!_pos l j hj] at h
  exact (List.getElem_inj S.nodup).1 h
theorem Sorted.stE {i : Nat} (hi : i < l.length) (h : isSt l[i]! = true) : ∃ k, k < ns.length ∧ l[i]! = startE k ns[k]! := by
  obtain ⟨k, hk, e | e⟩ := S.at_mem hi
  · exact ⟨k, hk, e⟩
  · rw [e] at h; cases h
theorem Sorted.spE {i : Nat} (hi : i < l.length) (h : isSp l[i]! = true) : ∃ k, k < ns.length ∧ l[i]! = stopE k ns[k]! := by
  obtain ⟨k, hk, e | e⟩ := S.at_mem hi
  · rw [e] at h; cases h
  · exact ⟨k, hk, e⟩
theorem Sorted.st1 (i j : Nat) (hi : i < l.length) (hj : j < l.length) (h1 : isSt l[i]! = true) (h2 : isSt l[j]! = true) (h : l[i]!.Note = l[j]!.Note) : i = j := by
  obtain ⟨a, ha, e1⟩ := S.stE hi h1
  obtain ⟨b, hb, e2⟩ := S.stE hj h2
  refine S.inj hi hj ?_
  rw [e1, e2] at h
  have h : (a : Int) = b := h
  obtain rfl : a = b := by omega
  rw [e1, e2]
theorem Sorted.sp1 (i j : Nat) (hi : i < l.length) (hj : j < l.length) (h1 : isSp l[i]! = true) (h2 : isSp l[j]! = true) (h : l[i]!.Note = l[j]!.Note) : i = j := by
  obtain ⟨a, ha, e1⟩ := S.spE hi h1
  obtain ⟨b, hb, e2⟩ := S.spE hj h2
  refine S.inj hi hj ?_
  rw [e1, e2] at h
  have h : (a : Int) = b := h
  obtain rfl : a = b := by omega
  rw [e1, e2]
theorem Sorted.has {e : GEvent} (h : e ∈ evsOf ns) : ∃ j, j < l.length ∧ l[j]! = e := by
  obtain ⟨j, hj, e1⟩ := List.mem_iff_getElem.1 (S.perm.mem_iff.2 h)
  exact ⟨j, hj, by rw [getElem!_pos l j hj, e1]⟩
theorem Sorted.key {e : GEvent} (h : e ∈ evsOf ns) : keyOf l e = keyN ns e := by
  obtain ⟨k, hk, he⟩ := evsOf_mem.1 h
  have hn : e.Note = (k : Int) := by rcases he with rfl | rfl <;> rfl
  obtain ⟨j, hj, e1⟩ := S.has (evsOf_mem.2 ⟨k, hk, .inl rfl⟩)
  have := start_of (es := l) hj (by rw [e1]; rfl) (fun i hi h1 h2 => S.st1 i j hi hj h1 (by rw [e1]; rfl) h2)
  rw [e1] at this
  have this : startAt l (k : Int) = ns[k]!.At := this
  unfold keyOf keyN
  rw [hn, this, Int.toNat_natCast]
theorem Sorted.good (N : NotesOk ni ns) : EvGood l ni := by
  have hl := S.len
  have hn := N.len
  refine ⟨by omega, by omega, fun i hi => ?_, fun i hi => ?_, S.st1, S.sp1, fun i hi h => ?_, fun i hi => ?_⟩
  · obtain ⟨k, hk, e | e⟩ := S.at_mem hi
    · rw [e]; exact startE_part (N.get hk)
    · rw [e]; exact stopE_part (N.get hk)
  · obtain ⟨k, hk, e | e⟩ := S.at_mem hi
    · rw [e]
      show (0 : Int) ≤ (k : Int) ∧ (k : Int) < _
      omega
    · rw [e]
      show (0 : Int) ≤ (k : Int) ∧ (k : Int) < _
      omega
  · obtain ⟨k, hk, e⟩ := S.spE hi h
    obtain ⟨j, hj, e1⟩ := S.has (evsOf_mem.2 ⟨k, hk, .inl rfl⟩)
    exact ⟨j, hj, by rw [e1]; rfl, by rw [e1, e]; rfl, by rw [e1, e]; exact (N.get hk).le⟩
  · have m1 : l[i]! ∈ evsOf ns := S.perm.mem_iff.1 (by rw [getElem!_pos l i (by omega)]; exact List.getElem_mem _)
    have m2 : l[i + 1]! ∈ evsOf ns := S.perm.mem_iff.1 (by rw [getElem!_pos l (i + 1) hi]; exact List.getElem_mem _)
    rw [S.key m1, S.key m2]
    have p := List.pairwise_iff_getElem.1 S.pw i (i + 1) (by omega) hi (by omega)
    rw [← getElem!_pos l i (by omega), ← getElem!_pos l (i + 1) hi] at p
    apply Classical.byContradiction
    intro hc
    have := key_inj m1 m2 (lt4_total (by rw [keyN_len, keyN_len]) (Bool.eq_false_iff.2 hc) p)
    have := S.inj (by omega) hi this
    omega
end
end
end Go.Sx
/- The laws' helpers over rings and filters: what they compute. -/
set_option linter.unusedVariables false
set_option linter.unusedSimpArgs false
namespace Go.Sx
open Go.Proofs
set_option maxRecDepth 100000

theorem nw_Float32S (xs : List Nat) : n_Float32S xs ≤ 8 * w_Float32S xs := by unfold n_Float32S w_Float32S; omega
end Go.Sx
/- Floats in blocks beside own data; blocks made sample by sample. -/
set_option linter.unusedVariables false
set_option linter.unusedSimpArgs false
namespace Go.Sx
open Go.Proofs
set_option maxRecDepth 100000
set_option maxHeartbeats 1000000

theorem rdsF_any {k : FloatKind} {h h' : Heap} : ∀ {xs : List Nat} {vs : List Value}, rds (rF k) h vs xs → rds (rF k) h' vs xs
  | [], vs, R => R
  | a :: xs, vs, R => by
    obtain ⟨v1, v2, rfl, R1, R2⟩ := R
    exact ⟨v1, v2, rfl, R1, rdsF_any R2⟩
/-- n floats, wherever they lie. -/
def FA (n : Nat) (cs : Array Value) (xs : List Nat) : Prop := (rArr n (rF .f32)).rd #[] cs.toList xs
section
variable {n : Nat} {cs : Array Value} {xs : List Nat}
theorem FA.rd (R : FA n cs xs) (h : Heap) : (rArr n (rF .f32)).rd h cs.toList xs := ⟨R.1, rdsF_any R.2⟩
theorem FA.of {h : Heap} (R : (rArr n (rF .f32)).rd h cs.toList xs) : FA n cs xs := ⟨R.1, rdsF_any R.2⟩
theorem FA.size (R : FA n cs xs) : cs.size = n := by have := rsz R rfl; rw [this]; exact Nat.mul_one n
theorem FA.one (R : FA n cs xs) : ∀ v ∈ cs.toList, v.oneCell' = true := (rArr n (rF .f32)).rone R
end
section
variable {h0 h : Heap} {q : Addr} {F : Fr} {L : List Blk} {n : Nat}
theorem Mem.pin2 {h0' h' : Heap} {L' : List Blk} {g m : Nat} {cs : Array Value} {p : Prop} (M : Mem h0 h L) (l : Look L g cs) (M' : Mem h0' h' L') (l' : Look L' g cs) (H : p) : PIN h ⟨g, 0, none⟩ m h' p :=
  ⟨fun j _ => by rw [add_g, M.cell l, M'.cell l'], H⟩
end
end Go.Sx
