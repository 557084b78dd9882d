/- Elements of own slices set and exchanged; notes of a score; events of notes, sorted by the rule. -/
import Derived.Test.YtnhcoeogejgidabGreatDoorLm21
import Derived.Test.YtnhcoeogejgidabGreatDoorLm14
import Derived.Test.YtnhcoeogejgidabGreatDoorLk27
import Derived.Test.YtnhcoeogejgidabGreatDoorLm23
import Derived.Test.YtnhcoeogejgidabGreatDoorLr3
import Derived.Test.YtnhcoeogejgidabGreatDoorLk0
import Derived.Test.YtnhcoeogejgidabGreatDoorH4
import Derived.Test.YtnhcoeogejgidabGreatDoorLcs
import Derived.Test.YtnhcoeogejgidabGreatDoorLv6
set_option linter.unusedVariables false
set_option linter.unusedSimpArgs false
namespace Go.Sx
open Go.Proofs
set_option maxRecDepth 100000
set_option maxHeartbeats 1000000

section
variable {β : Type} [Inhabited β] {s : Rep β} {P : Program} {h0 h : Heap} {B L : List Blk} {b : Option Addr} {e l c n i k t ty bytes : Nat} {els : List β}
/-- An element of an own slice set. -/
theorem SlO.setF {vs : Array Value} {x : β} {K : Heap → Prop} (O : SlO e s B b l c els) (M : Mem h0 h (B ++ L)) (hi : i < l) (hn : s.sz = n) (Ox : s.ow [] vs.toList x)
    (H : ∀ h' B', SlO e s B' b l c (els.set i x) → Mem h0 h' (B' ++ L) → K h') : IDXS b (i : Int) l fun p => STA n h (p.add ((i : Int).toNat * s.sz)) vs K := by
  obtain ⟨a0, F', L', rfl, P, hs, close⟩ := O.elem M hi
  refine idxs (by omega) (by omega) ?_
  rw [Int.toNat_natCast]
  refine P.sts0 (B' := []) (Foc.here s) hn Ox fun h' P' => ?_
  obtain ⟨B', O', M'⟩ := close _ _ _ P'
  exact H h' B' O' M'
/-- Two neighbours of an own slice exchanged, by a local copy. -/
theorem SlO.swap {z : Array Value} {T : Nat} {K : Heap → Prop} (O : SlO e s B b l c els) (M : Mem h0 h (B ++ L)) (hf : Flat s) (hk0 : 0 < k) (hk : k < l) (hn : s.sz = n) (hp : 0 < s.sz) (hz : z.size = n)
    (H : ∀ h' B', SlO e s B' b l c (swpL els k) → Mem h0 h' (B' ++ L) → K h') :
    IDXS b (k : Int) l fun p => LDA n h (p.add ((k : Int).toNat * s.sz)) fun a => ALC z T (fun g h1 => STA n h1 ⟨g, 0, none⟩ a fun h2 => IDXS b ((k - 1 : Nat) : Int) l fun p => LDA n h2 (p.add (((k - 1 : Nat) : Int).toNat * s.sz)) fun a =>
      IDXS b (k : Int) l fun p => STA n h2 (p.add ((k : Int).toNat * s.sz)) a fun h3 => LDA n h3 ⟨g, 0, none⟩ fun a => IDXS b ((k - 1 : Nat) : Int) l fun p => STA n h3 (p.add (((k - 1 : Nat) : Int).toNat * s.sz)) a K) h := by
  have S := O.look M (List.sublist_append_left _ _)
  refine S.idn hp hk fun a Ra => Ra.lda1 hn fun c1 R1 => M.alc fun g h1 x1 M1 => M1.sta0 .here (rsz R1 hn) (s.rone R1) hz .here fun h2 M2 => ?_
  have S2 := O.look M2 ((List.sublist_append_left _ _).trans (List.sublist_cons_self _ _))
  refine S2.idn hp (show k - 1 < l by omega) fun a' Ra' => Ra'.lda1 hn fun c2 R2 => ?_
  have M3 : Mem h0 h2 (B ++ ((g, T, c1) :: L)) := M2.perm List.perm_middle.symm
  refine O.setF M3 hk hn (hf _ _ _ R2) fun h3 B3 O3 M4 => ?_
  refine (M4.perm List.perm_middle).lda0 .here (rsz R1 hn) ?_
  exact O3.setF M4 (show k - 1 < l by omega) hn (hf _ _ _ R1) fun h4 B4 O4 M6 => H h4 B4 O4 (M6.sub (List.Sublist.append (List.Sublist.refl _) (List.sublist_cons_self _ _)))
end
section
variable {β : Type} {s : Rep β} {P : Program} {h0 h : Heap} {B L : List Blk} {b : Option Addr} {e l c n i k t ty bytes : Nat} {els : List β}
/-- Two elements appended, which have been laid in a block. -/
theorem push2_own {cs : Array Value} {x y : β} {K : Value → Heap → Prop} (E : ElemT P t e s.sz bytes) (O : SlO e s B b l c els) (M : Mem h0 h (B ++ L)) (Ox : ows s [] cs.toList [x, y]) (hmax : l + 2 ≤ maxLen) (hbytes : (l + 2) * bytes ≤ 140737488355328)
    (H : ∀ b' c' h' B', SlO e s B' b' (l + 2) c' (els ++ [x, y]) → Mem h0 h' (B' ++ L) → K (.slice b' (l + 2) c') h') :
    ALC cs e (fun g h => SEMV P (Builtin.append_ #[t, t] ty #[.slice b l c, .slice (some ⟨g, 0, none⟩) 2 2]) K h) h := by
  refine M.alc fun g h1 x1 M1 => ?_
  have M2 : Mem h0 h1 (B ++ ([] ++ ((g, e, cs) :: L))) := M1.perm List.perm_middle.symm
  refine O.app (news := cs.toList) E M2 (ys := [x, y]) rfl Ox (fun j v hj => ?_) hmax hbytes fun b' c' h' B' O' M' => H b' c' h' B' O' (M'.sub (List.Sublist.append (List.Sublist.refl _) (List.sublist_cons_self _ _)))
  rw [add_none, Nat.zero_add, M1.cell .here, ← hj, Array.getElem?_toList]
end
/-- Four numbers. -/
def rKey : Rep (List Int) where
  sz := 4
  rd _ vs a := a.length = 4 ∧ vs = (keyV a).toList
  ow B vs a := B = [] ∧ a.length = 4 ∧ vs = (keyV a).toList
  rlen h := by obtain ⟨h1, rfl⟩ := h; rw [Array.length_toList, keyV_size, h1]
  olen h := by obtain ⟨_, h1, rfl⟩ := h; rw [Array.length_toList, keyV_size, h1]
  ext _ h := h
  look h _ _ := h.2
  rone h v hv := by obtain ⟨_, rfl⟩ := h; exact keyV_one _ v hv
  oone h v hv := by obtain ⟨_, _, rfl⟩ := h; exact keyV_one _ v hv
theorem flat_Key : Flat rKey := fun h vs a e => ⟨rfl, e⟩
theorem key_agg {h : Heap} {cs : Array Value} {a : List Int} (R : rKey.rd h cs.toList a) : cs = keyV a := by
  obtain ⟨_, e⟩ := R
  exact Array.toList_inj.1 e
theorem note_ow {a e i k : Int} {x f : Nat} (hf : FW .f32 x f) : rNote.ow [] [.int .i64 a, .int .i64 e, .int .i64 i, .int .i64 k, .float .f32 x] ⟨a, e, i, k, f⟩ :=
  ⟨[], [], [_], [_, _, _, _], rfl, rfl, ⟨rfl, rfl⟩, [], [], [_], [_, _, _], rfl, rfl, ⟨rfl, rfl⟩, [], [], [_], [_, _], rfl, rfl, ⟨rfl, rfl⟩, [], [], [_], [_], rfl, rfl, ⟨rfl, rfl⟩, rfl, x, rfl, hf⟩
theorem event_ow {a k n i y : Int} {x f : Nat} (hf : FW .f32 x f) : rEvent.ow [] [.int .i64 a, .int .i64 k, .int .i64 n, .int .i64 i, .int .i64 y, .float .f32 x] ⟨a, k, n, i, y, f⟩ :=
  ⟨[], [], [_], [_, _, _, _, _], rfl, rfl, ⟨rfl, rfl⟩, [], [], [_], [_, _, _, _], rfl, rfl, ⟨rfl, rfl⟩, [], [], [_], [_, _, _], rfl, rfl, ⟨rfl, rfl⟩, [], [], [_], [_, _], rfl, rfl, ⟨rfl, rfl⟩, [], [], [_], [_], rfl, rfl, ⟨rfl, rfl⟩, rfl, x, rfl, hf⟩
section
variable {h : Heap}
theorem half_wrap {l : Nat} (h : l ≤ 4294967296) : IntKind.i64.wrap (Int.tdiv (l : Int) 2) = ((l / 2 : Nat) : Int) := by
  rw [show Int.tdiv (l : Int) 2 = ((l / 2 : Nat) : Int) from rfl, wrap64 (by omega) (by omega)]
end
end Go.Sx
/- Notes, lines with one number, lines compiled by the rule. -/
set_option linter.unusedVariables false
set_option linter.unusedSimpArgs false
namespace Go.Sx
open Go.Proofs
set_option maxRecDepth 100000
set_option maxHeartbeats 1000000

theorem inst_apart {ks : List GInstrument} (h : instOk ks = true) {i j : Nat} (hi : i < ks.length) (hj : j < ks.length) (hn : i ≠ j) : ks[i]!.Name ≠ ks[j]!.Name := by
  have key : ∀ {i j : Nat}, j < ks.length → i < j → ks[i]!.Name ≠ ks[j]!.Name := fun {i j} hj hij => by
    unfold instOk at h
    have := List.all_eq_true.1 h j (List.mem_range.2 hj)
    unfold instAt at this
    simp only [Bool.and_eq_true, List.all_eq_true, List.mem_range] at this
    simpa using this.2 i hij
  rcases Nat.lt_or_ge i j with h1 | h1
  · exact key hj h1
  · exact (key hi (show j < i by omega)).symm
theorem name_at {ks : List GInstrument} (h : instOk ks = true) {m : Nat} (hm : m < ks.length) : nameAt ks ks[m]!.Name = m := by
  unfold nameAt
  rcases first_cases (fun x : GInstrument => decide (x.Name = ks[m]!.Name)) ks with ⟨_, e⟩ | ⟨n, hn, e, _, hp⟩
  · have := e m hm; simp at this
  · rw [e]
    have hp : ks[n]!.Name = ks[m]!.Name := of_decide_eq_true hp
    by_cases hnm : n = m
    · rw [hnm]
    · exact absurd hp (inst_apart h hn hm hnm)
theorem name_none {ks : List GInstrument} {nm : ByteArray} (h : ∀ i, i < ks.length → ks[i]!.Name ≠ nm) : nameAt ks nm = -1 := by
  unfold nameAt
  rcases first_cases (fun x : GInstrument => decide (x.Name = nm)) ks with ⟨e, _⟩ | ⟨n, hn, e, _, hp⟩
  · exact e
  · exact absurd (of_decide_eq_true hp) (h n hn)
section
variable {h0 h : Heap} {q : Addr} {F : Fr} {L : List Blk} {s : GComp} {p : Nat}
theorem playL_eq {ws : List (List UInt8)} : s.playL p ws = match signedL ws[2]!, fracL ws[3]!, wholeL ws[4]! with
  | some key, some force, some long => if nameOk (mkB ws[1]!) then s.note p (mkB ws[1]!) key force long else .error 5
  | _, _, _ => .error 5 := rfl
theorem playL_bad {ws : List (List UInt8)} (h : nameOk (mkB ws[1]!) = false ∨ signedL ws[2]! = none ∨ fracL ws[3]! = none ∨ wholeL ws[4]! = none) : s.playL p ws = .error 5 := by
  rw [playL_eq]
  rcases h with h | h | h | h
  · rw [h]; split <;> rfl
  · rw [h]
  · rw [h]; cases signedL ws[2]! <;> rfl
  · rw [h]; cases signedL ws[2]! <;> cases fracL ws[3]! <;> rfl
theorem play_c {b : Option Addr} {n k : Nat} {ws : List (List UInt8)} (I : CInv s) (P : Pt rWork h0 h q F L s.work) (S : SlR rS h b n k (ws.map mkB)) (hl : ∀ j : Nat, (ws[j]!).length ≤ 4096) :
    CALL prg f_p_spec_l08Work_play #[.pointer (some q), .slice b n k] (fun u h' => ResW h0 h' q F L p (if ws.length = 5 then s.playL p ws else .error 5) u) h := by
  have hn : ws.length = n := by have := S.len; rwa [List.length_map] at this
  have hmx : (1048576 : Nat) ≤ maxLen := by decide
  have sz : ∀ j : Nat, (mkB ws[j]!).size ≤ maxLen := fun j => by rw [mk_size]; have := hl j; omega
  have ll : ∀ j : Nat, (ws[j]!).length ≤ 1048576 := fun j => by have := hl j; omega
  refine p_spec_l08Work_play.call ?_
  refine br (fun h5 => ?_) fun h5 => ?_
  · have h5 : (n : Int) ≠ 5 := bne_iff_ne.1 h5
    rw [if_neg (by omega)]
    exact ResW.err rfl P.mem
  obtain rfl : n = 5 := by
    have h5 : (n : Int) = 5 := by simpa using h5
    omega
  rw [if_pos hn]
  refine S.str 1 rfl (by decide) (goX (l08Name_c _ (sz 1) _) fun h6 x6 => as_b (brN (fun hb => ResW.err (playL_bad (.inl hb)) (P.grow x6).mem) fun hnm => ?_))
  have P := P.grow x6
  have S := S.ext x6
  unfold p_spec_l08Work_play.J3
  refine S.str 2 rfl (by decide) (goX (l08Signed_c _ _) fun h11 x11 => ?_)
  rw [signed_open]
  have P := P.grow x11
  have S := S.ext x11
  refine tup2 (as_i (as_b (S.str 3 rfl (by decide) ((l08Fraction_c (ll 3)).mono ?_))))
  rintro u2 h19 ⟨V2, x19⟩
  obtain ⟨x2, a2, rfl, f2, e2⟩ := frac_open V2
  have P := P.grow x19
  have S := S.ext x19
  refine tup2 (as_f (as_b (S.str 4 rfl (by decide) (goX (l08Whole_c _ _) fun h27 x27 => ?_))))
  rw [whole_open]
  have P := P.grow x27
  have S := S.ext x27
  refine tup2 (as_i (as_b (brN (fun h => ResW.err (playL_bad (.inr (.inl (none_of h)))) P.mem) fun h1 => brN (fun h => ResW.err (playL_bad (.inr (.inr (.inl (none_of h))))) P.mem) fun h2 => brN (fun h => ResW.err (playL_bad (.inr (.inr (.inr (none_of h))))) P.mem) fun h3 => ?_)))
  obtain ⟨key, h1⟩ := some_of h1
  obtain ⟨force, h2⟩ := some_of h2
  obtain ⟨long, h3⟩ := some_of h3
  obtain rfl := e2 _ h2
  have es : s.playL p ws = s.note p (mkB ws[1]!) key a2 long := by rw [playL_eq, h1, h2, h3]; show (if nameOk (mkB ws[1]!) = true then _ else _) = _; rw [if_pos hnm]
  rw [es, h1, h3]
  show p_spec_l08Work_play.J8 _ q b 5 k key x2 (long : Int) h27
  unfold p_spec_l08Work_play.J8
  have hw := whole_lt h3
  have i0 := I.n0
  have i1 := I.n1
  have k6 := I.k6
  have n64 := I.n64
  refine goX (l00In_c _ _ _ _) fun h33 x33 => as_b (brN (fun hk => ResW.err ?_ (P.grow x33).mem) fun hk => ?_)
  · unfold GComp.note
    rw [hk]; rfl
  have P := P.grow x33
  have S := S.ext x33
  refine P.rd.oI (off := 6) ?_
  show BIF (decide (100000 < IntKind.i64.wrap (s.now + (long : Int)))) _ _
  rw [wrap64 (n := s.now + (long : Int)) (by omega) (by omega)]
  refine brd (fun hg => ResW.err ?_ P.mem) fun hg => ?_
  · unfold GComp.note
    rw [hk, decide_eq_true hg]; rfl
  unfold p_spec_l08Work_play.J10
  have en : s.note p (mkB ws[1]!) key a2 long = if nameAt s.kinds (mkB ws[1]!) < 0 then .error 6 else if s.notes.length < 64 then .ok ({ s with notes := s.notes ++ [⟨s.now, s.now + long, nameAt s.kinds (mkB ws[1]!), key, a2⟩] }, p + 1) else .error 3 := by
    unfold GComp.note
    rw [hk, decide_eq_false hg]; rfl
  rw [en]
  refine loop (fun y hh => ∃ (i : Nat) (at_ : Int), y = (q, b, 5, k, key, x2, (long : Int), at_, (i : Int)) ∧ hh = h33 ∧ i ≤ s.kinds.length ∧ ((at_ = -1 ∧ ∀ j, j < i → s.kinds[j]!.Name ≠ mkB ws[1]!) ∨ ∃ m : Nat, m < i ∧ at_ = m ∧ s.kinds[m]!.Name = mkB ws[1]!))
    (fun y => ((s.kinds.length : Int) - y.2.2.2.2.2.2.2.2).toNat) ⟨0, -1, rfl, rfl, by omega, .inl ⟨rfl, fun j hj => by omega⟩⟩ ?_
  rintro y hh ⟨i, at_, rfl, rfl, hi, hat⟩
  refine P.rd.oL (off := 4) fun b4 l4 c4 S4 => ?_
  obtain rfl : s.kinds.length = l4 := S4.len
  refine brd (fun hc => ?_) fun hc => ?_
  · refine P.rd.oL (off := 4) fun b4 l4 c4 S4 => ?_
    obtain rfl : s.kinds.length = l4 := S4.len
    have hil : i < s.kinds.length := by omega
    refine S4.idn (by decide) hil fun a Ra => Ra.oS1 fun _ => S.str 1 rfl (by decide) ?_
    rw [str_eq]
    refine brd (fun he => ⟨⟨i + 1, (i : Int), by rw [wrap64_succ (by omega)], rfl, by omega, .inr ⟨i, by omega, rfl, he⟩⟩, by rw [wrap64_succ (by omega)]; show ((s.kinds.length : Int) - ((i + 1 : Nat) : Int)).toNat < ((s.kinds.length : Int) - (i : Int)).toNat; omega⟩) fun he => ⟨⟨i + 1, at_, by rw [wrap64_succ (by omega)], rfl, by omega, ?_⟩, by rw [wrap64_succ (by omega)]; show ((s.kinds.length : Int) - ((i + 1 : Nat) : Int)).toNat < ((s.kinds.length : Int) - (i : Int)).toNat; omega⟩
    rcases hat with ⟨e, hno⟩ | ⟨m, hm, e, hp⟩
    · refine .inl ⟨e, fun j hj => ?_⟩
      by_cases e : j = i
      · subst e; exact he
      · exact hno j (by omega)
    · exact .inr ⟨m, by omega, e, hp⟩
  · obtain rfl : i = s.kinds.length := by omega
    have ea : at_ = nameAt s.kinds (mkB ws[1]!) := by
      rcases hat with ⟨e, hno⟩ | ⟨m, hm, e, hp⟩
      · rw [e, name_none hno]
      · rw [e, ← hp, name_at I.kok hm]
    subst ea
    refine brd (fun h => ?_) fun h => ?_
    · rw [if_pos h]; exact ResW.err rfl P.mem
    rw [if_neg h]
    refine P.rd.oL (off := 5) fun b5 l5 c5 S5 => ?_
    obtain rfl : s.notes.length = l5 := S5.len
    refine br (fun h64 => ?_) fun h64 => ?_
    · have h64 : (s.notes.length : Int) = 64 := eq_of_beq h64
      rw [if_neg (by omega)]; exact ResW.err rfl P.mem
    have h64 : (s.notes.length : Int) ≠ 64 := ne_of_beq_false h64
    rw [if_pos (by omega)]
    obtain ⟨b5, l5, c5, eb, _⟩ := P.hdr (off := 5) (e := T_spec_l08Note) (s := rNote)
    refine o_l eb (P.rd.oI (off := 6) (P.rd.oI (off := 6) (siz rfl ?_)))
    have b1 := ins_max (n := s.notes.length) (by omega)
    show ALC ⟨[.int .i64 s.now, .int .i64 (IntKind.i64.wrap (s.now + (long : Int))), _, _, _]⟩ _ _ _
    rw [wrap64 (n := s.now + (long : Int)) (by omega) (by omega)]
    refine Pt.appP (off := 5) (Bn := []) P eb E_sl_spec_l08Note (ows_one (note_ow f2)) rfl (by show s.notes.length + 1 ≤ _; omega) (by show (s.notes.length + 1) * 40 ≤ _; omega) fun h55 P => ?_
    exact ResW.ok (s' := { s with notes := s.notes ++ [⟨s.now, s.now + long, nameAt s.kinds (mkB ws[1]!), key, a2⟩] }) rfl P
end
end Go.Sx
/- Deeds read: the program's, and the law. -/
set_option linter.unusedVariables false
set_option linter.unusedSimpArgs false
namespace Go.Sx
open Go.Proofs
set_option maxRecDepth 100000
set_option maxHeartbeats 2000000

theorem cut_len {c : UInt8} : ∀ {l w : List UInt8}, w ∈ cutL c l → w.length ≤ l.length
  | [], w, h => by simp [cutL] at h; subst h; simp
  | b :: l, w, h => by
    unfold cutL at h
    split at h
    · rcases List.mem_cons.1 h with rfl | h
      · simp
      · have := cut_len h; simp; omega
    · split at h
      · simp at h; subst h; simp
      · next v r e =>
        rcases List.mem_cons.1 h with rfl | h
        · have := cut_len (l := l) (w := v) (by rw [e]; exact List.mem_cons_self ..)
          simp; omega
        · have := cut_len (l := l) (w := w) (by rw [e]; exact List.mem_cons_of_mem _ h)
          simp; omega
end Go.Sx
