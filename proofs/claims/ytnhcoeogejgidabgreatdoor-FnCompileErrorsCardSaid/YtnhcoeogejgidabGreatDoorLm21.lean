/- Numbers in texts, plainly: what is read is the number's own text. -/
import Derived.Test.YtnhcoeogejgidabGreatDoorLm15
import Derived.Test.YtnhcoeogejgidabGreatDoorLm14
import Derived.Test.YtnhcoeogejgidabGreatDoorLg
import Derived.Test.YtnhcoeogejgidabGreatDoorLp2
import Derived.Test.YtnhcoeogejgidabGreatDoorLp5
import Derived.Test.YtnhcoeogejgidabGreatDoorTabE
import Derived.Test.YtnhcoeogejgidabGreatDoorLk24
import Derived.Test.YtnhcoeogejgidabGreatDoorLk27
set_option linter.unusedVariables false
set_option linter.unusedSimpArgs false
namespace Go.Sx

theorem dec_step {q d : Nat} (hq : 1 ≤ q) (hd : d < 10) : Lib.decDigits (q * 10 + d) = Lib.decDigits q ++ [UInt8.ofNat (48 + d)] := by
  conv => lhs; rw [Lib.decDigits.eq_def]
  rw [dif_neg (by omega), show (q * 10 + d) / 10 = q by omega, show (q * 10 + d) % 10 = d by omega]
theorem dec_of : ∀ (n : Nat) {l : List UInt8} {m : Nat}, l.length = n → l ≠ [] → (l.head? = some 48 → l.length = 1) → digs 0 l = some m → l = Lib.decDigits m := by
  intro n
  induction n using Nat.strongRecOn with
  | _ n ih =>
    intro l m hn h0 hh hd
    have e := List.dropLast_concat_getLast h0
    generalize hl' : l.dropLast = l' at e
    generalize hb : l.getLast h0 = b at e
    rw [← e, digs_app] at hd
    have one : ∀ acc, digs acc [b] = some m → ∃ d, d < 10 ∧ b = UInt8.ofNat (48 + d) ∧ m = acc * 10 + d := fun acc h => by
      unfold digs at h
      by_cases hc : 48 ≤ b.toNat ∧ b.toNat ≤ 57
      · rw [if_pos hc] at h
        simp only [digs, Option.some.injEq] at h
        refine ⟨b.toNat - 48, by omega, ?_, by omega⟩
        apply UInt8.toNat.inj
        rw [dig_byte (by omega)]; omega
      · rw [if_neg hc] at h; cases h
    by_cases hz : l' = []
    · subst hz
      obtain ⟨d, h1, h2, h3⟩ := one 0 hd
      rw [← e, h2, h3, show 0 * 10 + d = d by omega, Lib.decDigits_one h1]; rfl
    · obtain ⟨q, hq, h1⟩ : ∃ q, digs 0 l' = some q ∧ digs q [b] = some m := by
        cases hq : digs 0 l' with
        | none => rw [hq] at hd; cases hd
        | some q => rw [hq] at hd; exact ⟨q, rfl, hd⟩
      have hlen : l.length = l'.length + 1 := by rw [← e, List.length_append]; rfl
      have hp : 1 ≤ l'.length := List.length_pos_iff.2 hz
      have hhd : l'.head? = some 48 → False := fun h => by
        have : l.head? = some 48 := by
          rw [← e]
          obtain ⟨x, r, rfl⟩ := List.exists_cons_of_ne_nil hz
          exact h
        have := hh this
        omega
      have e2 := ih l'.length (by omega) rfl hz (fun h => (hhd h).elim) hq
      have q1 : 1 ≤ q := by
        rcases Nat.eq_zero_or_pos q with rfl | h
        · rw [e2, Lib.decDigits_one (by omega)] at hhd
          exact (hhd rfl).elim
        · exact h
      obtain ⟨d, h2, h3, h4⟩ := one q h1
      rw [← e, h3, h4, dec_step q1 h2, e2]
theorem ten_pos : ∀ k : Nat, 1 ≤ 10 ^ k
  | 0 => Nat.le_refl _
  | k + 1 => by rw [Nat.pow_succ]; have := ten_pos k; omega
theorem num_iff {l : List UInt8} {m : Nat} : numL l = some m ↔ l = Lib.decDigits m ∧ l.length ≤ 9 := by
  constructor
  · intro h
    unfold numL at h
    by_cases h1 : l.length < 1 ∨ 9 < l.length
    · rw [if_pos h1] at h; cases h
    rw [if_neg h1] at h
    by_cases h2 : l.head? = some 48 ∧ 1 < l.length
    · rw [if_pos h2] at h; cases h
    rw [if_neg h2] at h
    exact ⟨dec_of _ rfl (fun e => by rw [e] at h1; simp at h1) (fun e => by
      by_cases hl : 1 < l.length
      · exact (h2 ⟨e, hl⟩).elim
      · omega) h, by omega⟩
  · rintro ⟨rfl, h⟩
    rw [Lib.decDigits_length] at h
    exact numL_dec (by
      apply Classical.byContradiction
      intro hc
      have key : ∀ (k m : Nat), 10 ^ k ≤ m → k < Lib.nDigits m := by
        intro k
        induction k with
        | zero => exact fun m _ => Lib.nDigits_pos m
        | succ k ih =>
          intro m hm
          have : 10 ≤ m := Nat.le_trans (by rw [Nat.pow_succ]; have := ten_pos k; omega) hm
          rw [Lib.nDigits_big (by omega)]
          have := ih (m / 10) (by rw [Nat.pow_succ] at hm; omega)
          omega
      have := key 9 m (by omega)
      omega)
theorem whole_iff {l : List UInt8} {m : Nat} : wholeL l = some m ↔ l = Lib.decDigits m ∧ l.length ≤ 6 := by
  unfold wholeL
  by_cases h : 6 < l.length
  · rw [if_pos h]
    exact ⟨fun e => (by cases e), fun e => by omega⟩
  · rw [if_neg h, num_iff]
    exact ⟨fun e => ⟨e.1, by omega⟩, fun e => ⟨e.1, by omega⟩⟩
theorem nDig_lt : ∀ (k m : Nat), Lib.nDigits m ≤ k + 1 → m < 10 ^ (k + 1)
  | 0, m, h => by
    by_cases hm : m < 10
    · simpa using hm
    · rw [Lib.nDigits_big hm] at h
      have := Lib.nDigits_pos (m / 10)
      omega
  | k + 1, m, h => by
    by_cases hm : m < 10
    · rw [Nat.pow_succ]; have := ten_pos (k + 1); omega
    · rw [Lib.nDigits_big hm] at h
      have := nDig_lt k (m / 10) (by omega)
      rw [Nat.pow_succ]; omega
theorem whole_lt {l : List UInt8} {m : Nat} (h : wholeL l = some m) : m < 1000000 := by
  obtain ⟨e, hl⟩ := whole_iff.1 h
  rw [e, Lib.decDigits_length] at hl
  exact nDig_lt 5 m hl
end Go.Sx
/- Sorted events of sound notes are good events, plainly. -/
set_option linter.unusedVariables false
set_option linter.unusedSimpArgs false
namespace Go.Sx

structure NoteOk (ni : Int) (n : GNote) : Prop where
  at0 : 0 ≤ n.At
  le : n.At ≤ n.End
  end_ : n.End ≤ 100000
  ins : 0 ≤ n.Instrument ∧ n.Instrument < ni
  key : -100 ≤ n.Key ∧ n.Key ≤ 100
  force : fin n.Force = true
structure NotesOk (ni : Int) (ns : List GNote) : Prop where
  len : ns.length ≤ 64
  each : ∀ n ∈ ns, NoteOk ni n
section
variable {ns : List GNote} {l : List GEvent} {ni : Int}
theorem NotesOk.get (N : NotesOk ni ns) {k : Nat} (hk : k < ns.length) : NoteOk ni ns[k]! := N.each _ (by rw [getElem!_pos ns k hk]; exact List.getElem_mem hk)
theorem startE_part {k : Nat} {n : GNote} (N : NoteOk ni n) : evPart ni (startE k n) = true := by
  have h1 := N.at0; have h2 := N.le; have h3 := N.end_; have h4 := N.ins; have h5 := N.key
  unfold evPart startE inR
  rw [if_neg (by show ¬ (2 : Int) = 1; decide)]
  simp only [Bool.and_eq_true, decide_eq_true_eq, beq_iff_eq, N.force]
  refine ⟨⟨h1, by omega⟩, ⟨⟨trivial, ?_⟩, ?_⟩, trivial⟩ <;> omega
theorem stopE_part {k : Nat} {n : GNote} (N : NoteOk ni n) : evPart ni (stopE k n) = true := by
  have h1 := N.at0; have h2 := N.le; have h3 := N.end_
  unfold evPart stopE inR
  rw [if_pos (by show (1 : Int) = 1; decide)]
  simp only [Bool.and_eq_true, decide_eq_true_eq, beq_iff_eq]
  refine ⟨⟨by omega, h3⟩, ⟨trivial, trivial⟩, trivial⟩
section
variable (S : Sorted ns l)
include S
theorem Sorted.at_mem {i : Nat} (hi : i < l.length) : ∃ k, k < ns.length ∧ (l[i]! = startE k ns[k]! ∨ l[i]! = stopE k ns[k]!) :=
  evsOf_mem.1 (S.perm.mem_iff.1 (by rw [getElem!_pos l i hi]; exact List.getElem_mem hi))
theorem Sorted.nodup : l.Nodup := S.perm.nodup_iff.2 (evsOf_nodup ns)
theorem Sorted.len : l.length = 2 * ns.length := by rw [S.perm.length_eq, evsOf_len]
theorem Sorted.inj {i j : Nat} (hi : i < l.length) (hj : j < l.length) (h : l[i]! = l[j]!) : i = j := by
  rw [getElem!_pos l i hi, getElem!_pos l j hj] at h
  exact (List.getElem_inj S.nodup).1 h
theorem Sorted.stE {i : Nat} (hi : i < l.length) (h : isSt l[i]! = true) : ∃ k, k < ns.length ∧ l[i]! = startE k ns[k]! := by
  obtain ⟨k, hk, e | e⟩ := S.at_mem hi
  · exact ⟨k, hk, e⟩
  · rw [e] at h; cases h
theorem Sorted.spE {i : Nat} (hi : i < l.length) (h : isSp l[i]! = true) : ∃ k, k < ns.length ∧ l[i]! = stopE k ns[k]! := by
  obtain ⟨k, hk, e | e⟩ := S.at_mem hi
  · rw [e] at h; cases h
  · exact ⟨k, hk, e⟩
theorem Sorted.st1 (i j : Nat) (hi : i < l.length) (hj : j < l.length) (h1 : isSt l[i]! = true) (h2 : isSt l[j]! = true) (h : l[i]!.Note = l[j]!.Note) : i = j := by
  obtain ⟨a, ha, e1⟩ := S.stE hi h1
  obtain ⟨b, hb, e2⟩ := S.stE hj h2
  refine S.inj hi hj ?_
  rw [e1, e2] at h
  have h : (a : Int) = b := h
  obtain rfl : a = b := by omega
  rw [e1, e2]
theorem Sorted.sp1 (i j : Nat) (hi : i < l.length) (hj : j < l.length) (h1 : isSp l[i]! = true) (h2 : isSp l[j]! = true) (h : l[i]!.Note = l[j]!.Note) : i = j := by
  obtain ⟨a, ha, e1⟩ := S.spE hi h1
  obtain ⟨b, hb, e2⟩ := S.spE hj h2
  refine S.inj hi hj ?_
  rw [e1, e2] at h
  have h : (a : Int) = b := h
  obtain rfl : a = b := by omega
  rw [e1, e2]
theorem Sorted.has {e : GEvent} (h : e ∈ evsOf ns) : ∃ j, j < l.length ∧ l[j]! = e := by
  obtain ⟨j, hj, e1⟩ := List.mem_iff_getElem.1 (S.perm.mem_iff.2 h)
  exact ⟨j, hj, by rw [getElem!_pos l j hj, e1]⟩
theorem Sorted.key {e : GEvent} (h : e ∈ evsOf ns) : keyOf l e = keyN ns e := by
  obtain ⟨k, hk, he⟩ := evsOf_mem.1 h
  have hn : e.Note = (k : Int) := by rcases he with rfl | rfl <;> rfl
  obtain ⟨j, hj, e1⟩ := S.has (evsOf_mem.2 ⟨k, hk, .inl rfl⟩)
  have := start_of (es := l) hj (by rw [e1]; rfl) (fun i hi h1 h2 => S.st1 i j hi hj h1 (by rw [e1]; rfl) h2)
  rw [e1] at this
  have this : startAt l (k : Int) = ns[k]!.At := this
  unfold keyOf keyN
  rw [hn, this, Int.toNat_natCast]
theorem Sorted.good (N : NotesOk ni ns) : EvGood l ni := by
  have hl := S.len
  have hn := N.len
  refine ⟨by omega, by omega, fun i hi => ?_, fun i hi => ?_, S.st1, S.sp1, fun i hi h => ?_, fun i hi => ?_⟩
  · obtain ⟨k, hk, e | e⟩ := S.at_mem hi
    · rw [e]; exact startE_part (N.get hk)
    · rw [e]; exact stopE_part (N.get hk)
  · obtain ⟨k, hk, e | e⟩ := S.at_mem hi
    · rw [e]
      show (0 : Int) ≤ (k : Int) ∧ (k : Int) < _
      omega
    · rw [e]
      show (0 : Int) ≤ (k : Int) ∧ (k : Int) < _
      omega
  · obtain ⟨k, hk, e⟩ := S.spE hi h
    obtain ⟨j, hj, e1⟩ := S.has (evsOf_mem.2 ⟨k, hk, .inl rfl⟩)
    exact ⟨j, hj, by rw [e1]; rfl, by rw [e1, e]; rfl, by rw [e1, e]; exact (N.get hk).le⟩
  · have m1 : l[i]! ∈ evsOf ns := S.perm.mem_iff.1 (by rw [getElem!_pos l i (by omega)]; exact List.getElem_mem _)
    have m2 : l[i + 1]! ∈ evsOf ns := S.perm.mem_iff.1 (by rw [getElem!_pos l (i + 1) hi]; exact List.getElem_mem _)
    rw [S.key m1, S.key m2]
    have p := List.pairwise_iff_getElem.1 S.pw i (i + 1) (by omega) hi (by omega)
    rw [← getElem!_pos l i (by omega), ← getElem!_pos l (i + 1) hi] at p
    apply Classical.byContradiction
    intro hc
    have := key_inj m1 m2 (lt4_total (by rw [keyN_len, keyN_len]) (Bool.eq_false_iff.2 hc) p)
    have := S.inj (by omega) hi this
    omega
end
end
end Go.Sx
/- How Note, Work lie in cells; their parts; given ones opened. -/
set_option linter.unusedVariables false
set_option linter.unusedSimpArgs false
namespace Go.Sx
open Go.Proofs
def rNote : Rep GNote := (Rep.seq (rI .i64) (Rep.seq (rI .i64) (Rep.seq (rI .i64) (Rep.seq (rI .i64) ((rF .f32)))))).via fun a => (a.At, a.End, a.Instrument, a.Key, a.Force)
theorem foc_Note_At : Foc rNote (rI .i64) 0 (fun a => a.At) (fun a b => { a with At := b }) := (Foc.via (f := fun a : GNote => (a.At, a.End, a.Instrument, a.Key, a.Force)) (get' := fun a => a.At) (put' := fun a b => { a with At := b }) (Foc.fst (Foc.here (rI .i64))) (fun _ => rfl) (fun _ _ => rfl)).at rfl
theorem foc_Note_End : Foc rNote (rI .i64) 1 (fun a => a.End) (fun a b => { a with End := b }) := (Foc.via (f := fun a : GNote => (a.At, a.End, a.Instrument, a.Key, a.Force)) (get' := fun a => a.End) (put' := fun a b => { a with End := b }) (Foc.snd (Foc.fst (Foc.here (rI .i64)))) (fun _ => rfl) (fun _ _ => rfl)).at rfl
theorem foc_Note_Instrument : Foc rNote (rI .i64) 2 (fun a => a.Instrument) (fun a b => { a with Instrument := b }) := (Foc.via (f := fun a : GNote => (a.At, a.End, a.Instrument, a.Key, a.Force)) (get' := fun a => a.Instrument) (put' := fun a b => { a with Instrument := b }) (Foc.snd (Foc.snd (Foc.fst (Foc.here (rI .i64))))) (fun _ => rfl) (fun _ _ => rfl)).at rfl
theorem foc_Note_Key : Foc rNote (rI .i64) 3 (fun a => a.Key) (fun a b => { a with Key := b }) := (Foc.via (f := fun a : GNote => (a.At, a.End, a.Instrument, a.Key, a.Force)) (get' := fun a => a.Key) (put' := fun a b => { a with Key := b }) (Foc.snd (Foc.snd (Foc.snd (Foc.fst (Foc.here (rI .i64)))))) (fun _ => rfl) (fun _ _ => rfl)).at rfl
theorem foc_Note_Force : Foc rNote (rF .f32) 4 (fun a => a.Force) (fun a b => { a with Force := b }) := (Foc.via (f := fun a : GNote => (a.At, a.End, a.Instrument, a.Key, a.Force)) (get' := fun a => a.Force) (put' := fun a b => { a with Force := b }) (Foc.snd (Foc.snd (Foc.snd (Foc.snd (Foc.here (rF .f32)))))) (fun _ => rfl) (fun _ _ => rfl)).at rfl
instance lf_Note_0 : FocC rNote 0 (rI .i64) (fun a => a.At) (fun a b => { a with At := b }) := ⟨Foc.at foc_Note_At rfl⟩
instance lf_Note_1 : FocC rNote 1 (rI .i64) (fun a => a.End) (fun a b => { a with End := b }) := ⟨Foc.at foc_Note_End rfl⟩
instance lf_Note_2 : FocC rNote 2 (rI .i64) (fun a => a.Instrument) (fun a b => { a with Instrument := b }) := ⟨Foc.at foc_Note_Instrument rfl⟩
instance lf_Note_3 : FocC rNote 3 (rI .i64) (fun a => a.Key) (fun a b => { a with Key := b }) := ⟨Foc.at foc_Note_Key rfl⟩
instance lf_Note_4 : FocC rNote 4 (rF .f32) (fun a => a.Force) (fun a b => { a with Force := b }) := ⟨Foc.at foc_Note_Force rfl⟩
structure GWork where
  rate : Nat
  tune : GTuning
  kinds : List GInstrument
  notes : List GNote
  now : Int
  from_ : List Int
  left : List Int
deriving Inhabited
def rWork : Rep GWork := (Rep.seq (rF .f32) (Rep.seq rTuning (Rep.seq (rSl T_impl_Instrument rInstrument) (Rep.seq (rSl T_spec_l08Note rNote) (Rep.seq (rI .i64) (Rep.seq (rSl T_int (rI .i64)) ((rSl T_int64 (rI .i64))))))))).via fun a => (a.rate, a.tune, a.kinds, a.notes, a.now, a.from_, a.left)
theorem foc_Work_rate : Foc rWork (rF .f32) 0 (fun a => a.rate) (fun a b => { a with rate := b }) := (Foc.via (f := fun a : GWork => (a.rate, a.tune, a.kinds, a.notes, a.now, a.from_, a.left)) (get' := fun a => a.rate) (put' := fun a b => { a with rate := b }) (Foc.fst (Foc.here (rF .f32))) (fun _ => rfl) (fun _ _ => rfl)).at rfl
theorem foc_Work_tune : Foc rWork rTuning 1 (fun a => a.tune) (fun a b => { a with tune := b }) := (Foc.via (f := fun a : GWork => (a.rate, a.tune, a.kinds, a.notes, a.now, a.from_, a.left)) (get' := fun a => a.tune) (put' := fun a b => { a with tune := b }) (Foc.snd (Foc.fst (Foc.here rTuning))) (fun _ => rfl) (fun _ _ => rfl)).at rfl
theorem foc_Work_kinds : Foc rWork (rSl T_impl_Instrument rInstrument) 4 (fun a => a.kinds) (fun a b => { a with kinds := b }) := (Foc.via (f := fun a : GWork => (a.rate, a.tune, a.kinds, a.notes, a.now, a.from_, a.left)) (get' := fun a => a.kinds) (put' := fun a b => { a with kinds := b }) (Foc.snd (Foc.snd (Foc.fst (Foc.here (rSl T_impl_Instrument rInstrument))))) (fun _ => rfl) (fun _ _ => rfl)).at rfl
theorem foc_Work_notes : Foc rWork (rSl T_spec_l08Note rNote) 5 (fun a => a.notes) (fun a b => { a with notes := b }) := (Foc.via (f := fun a : GWork => (a.rate, a.tune, a.kinds, a.notes, a.now, a.from_, a.left)) (get' := fun a => a.notes) (put' := fun a b => { a with notes := b }) (Foc.snd (Foc.snd (Foc.snd (Foc.fst (Foc.here (rSl T_spec_l08Note rNote)))))) (fun _ => rfl) (fun _ _ => rfl)).at rfl
theorem foc_Work_now : Foc rWork (rI .i64) 6 (fun a => a.now) (fun a b => { a with now := b }) := (Foc.via (f := fun a : GWork => (a.rate, a.tune, a.kinds, a.notes, a.now, a.from_, a.left)) (get' := fun a => a.now) (put' := fun a b => { a with now := b }) (Foc.snd (Foc.snd (Foc.snd (Foc.snd (Foc.fst (Foc.here (rI .i64))))))) (fun _ => rfl) (fun _ _ => rfl)).at rfl
theorem foc_Work_from_ : Foc rWork (rSl T_int (rI .i64)) 7 (fun a => a.from_) (fun a b => { a with from_ := b }) := (Foc.via (f := fun a : GWork => (a.rate, a.tune, a.kinds, a.notes, a.now, a.from_, a.left)) (get' := fun a => a.from_) (put' := fun a b => { a with from_ := b }) (Foc.snd (Foc.snd (Foc.snd (Foc.snd (Foc.snd (Foc.fst (Foc.here (rSl T_int (rI .i64))))))))) (fun _ => rfl) (fun _ _ => rfl)).at rfl
theorem foc_Work_left : Foc rWork (rSl T_int64 (rI .i64)) 8 (fun a => a.left) (fun a b => { a with left := b }) := (Foc.via (f := fun a : GWork => (a.rate, a.tune, a.kinds, a.notes, a.now, a.from_, a.left)) (get' := fun a => a.left) (put' := fun a b => { a with left := b }) (Foc.snd (Foc.snd (Foc.snd (Foc.snd (Foc.snd (Foc.snd (Foc.here (rSl T_int64 (rI .i64))))))))) (fun _ => rfl) (fun _ _ => rfl)).at rfl
instance lf_Work_0 : FocC rWork 0 (rF .f32) (fun a => a.rate) (fun a b => { a with rate := b }) := ⟨Foc.at foc_Work_rate rfl⟩
instance lf_Work_1 : FocC rWork 1 (rF .f32) (fun a => a.tune.Base) (fun a b => { a with tune := { a.tune with Base := b } }) := ⟨Foc.at (foc_Work_tune.trans lf_Tuning_0.f) rfl⟩
instance lf_Work_2 : FocC rWork 2 (rF .f32) (fun a => a.tune.Octave) (fun a b => { a with tune := { a.tune with Octave := b } }) := ⟨Foc.at (foc_Work_tune.trans lf_Tuning_1.f) rfl⟩
instance lf_Work_3 : FocC rWork 3 (rSl T_float32 (rF .f32)) (fun a => a.tune.Degrees) (fun a b => { a with tune := { a.tune with Degrees := b } }) := ⟨Foc.at (foc_Work_tune.trans lf_Tuning_2.f) rfl⟩
instance lf_Work_4 : FocC rWork 4 (rSl T_impl_Instrument rInstrument) (fun a => a.kinds) (fun a b => { a with kinds := b }) := ⟨Foc.at foc_Work_kinds rfl⟩
instance lf_Work_5 : FocC rWork 5 (rSl T_spec_l08Note rNote) (fun a => a.notes) (fun a b => { a with notes := b }) := ⟨Foc.at foc_Work_notes rfl⟩
instance lf_Work_6 : FocC rWork 6 (rI .i64) (fun a => a.now) (fun a b => { a with now := b }) := ⟨Foc.at foc_Work_now rfl⟩
instance lf_Work_7 : FocC rWork 7 (rSl T_int (rI .i64)) (fun a => a.from_) (fun a b => { a with from_ := b }) := ⟨Foc.at foc_Work_from_ rfl⟩
instance lf_Work_8 : FocC rWork 8 (rSl T_int64 (rI .i64)) (fun a => a.left) (fun a b => { a with left := b }) := ⟨Foc.at foc_Work_left rfl⟩
end Go.Sx
/- How Loop, Compiler lie in cells; their parts; given ones opened. -/
set_option linter.unusedVariables false
set_option linter.unusedSimpArgs false
namespace Go.Sx
open Go.Proofs
structure GLoop where
  line : Int
  left : Int
deriving Inhabited
def rLoop : Rep GLoop := (Rep.seq (rI .i64) ((rI .i64))).via fun a => (a.line, a.left)
theorem foc_Loop_line : Foc rLoop (rI .i64) 0 (fun a => a.line) (fun a b => { a with line := b }) := (Foc.via (f := fun a : GLoop => (a.line, a.left)) (get' := fun a => a.line) (put' := fun a b => { a with line := b }) (Foc.fst (Foc.here (rI .i64))) (fun _ => rfl) (fun _ _ => rfl)).at rfl
theorem foc_Loop_left : Foc rLoop (rI .i64) 1 (fun a => a.left) (fun a b => { a with left := b }) := (Foc.via (f := fun a : GLoop => (a.line, a.left)) (get' := fun a => a.left) (put' := fun a b => { a with left := b }) (Foc.snd (Foc.here (rI .i64))) (fun _ => rfl) (fun _ _ => rfl)).at rfl
instance lf_Loop_0 : FocC rLoop 0 (rI .i64) (fun a => a.line) (fun a b => { a with line := b }) := ⟨Foc.at foc_Loop_line rfl⟩
instance lf_Loop_1 : FocC rLoop 1 (rI .i64) (fun a => a.left) (fun a b => { a with left := b }) := ⟨Foc.at foc_Loop_left rfl⟩
structure GCompiler where
  score : GScore
  time : Int
  loops : List GLoop
  line : Int
deriving Inhabited
def rCompiler : Rep GCompiler := (Rep.seq rScore (Rep.seq (rI .i64) (Rep.seq (rSl T_impl_loop rLoop) ((rI .i64))))).via fun a => (a.score, a.time, a.loops, a.line)
theorem foc_Compiler_score : Foc rCompiler rScore 0 (fun a => a.score) (fun a b => { a with score := b }) := (Foc.via (f := fun a : GCompiler => (a.score, a.time, a.loops, a.line)) (get' := fun a => a.score) (put' := fun a b => { a with score := b }) (Foc.fst (Foc.here rScore)) (fun _ => rfl) (fun _ _ => rfl)).at rfl
theorem foc_Compiler_time : Foc rCompiler (rI .i64) 6 (fun a => a.time) (fun a b => { a with time := b }) := (Foc.via (f := fun a : GCompiler => (a.score, a.time, a.loops, a.line)) (get' := fun a => a.time) (put' := fun a b => { a with time := b }) (Foc.snd (Foc.fst (Foc.here (rI .i64)))) (fun _ => rfl) (fun _ _ => rfl)).at rfl
theorem foc_Compiler_loops : Foc rCompiler (rSl T_impl_loop rLoop) 7 (fun a => a.loops) (fun a b => { a with loops := b }) := (Foc.via (f := fun a : GCompiler => (a.score, a.time, a.loops, a.line)) (get' := fun a => a.loops) (put' := fun a b => { a with loops := b }) (Foc.snd (Foc.snd (Foc.fst (Foc.here (rSl T_impl_loop rLoop))))) (fun _ => rfl) (fun _ _ => rfl)).at rfl
theorem foc_Compiler_line : Foc rCompiler (rI .i64) 8 (fun a => a.line) (fun a b => { a with line := b }) := (Foc.via (f := fun a : GCompiler => (a.score, a.time, a.loops, a.line)) (get' := fun a => a.line) (put' := fun a b => { a with line := b }) (Foc.snd (Foc.snd (Foc.snd (Foc.here (rI .i64))))) (fun _ => rfl) (fun _ _ => rfl)).at rfl
def z_Compiler : GCompiler := ⟨z_Score, 0, [], 0⟩
theorem zow_Compiler : rCompiler.ow [] [Value.float .f32 0, Value.float .f32 0, Value.float .f32 0, Value.slice none 0 0, Value.slice none 0 0, Value.slice none 0 0, Value.int .i64 (0 : Int), Value.slice none 0 0, Value.int .i64 (0 : Int)] z_Compiler := ⟨[], [], [Value.float .f32 0, Value.float .f32 0, Value.float .f32 0, Value.slice none 0 0, Value.slice none 0 0, Value.slice none 0 0], [Value.int .i64 (0 : Int), Value.slice none 0 0, Value.int .i64 (0 : Int)], rfl, rfl, zow_Score, ⟨[], [], [Value.int .i64 (0 : Int)], [Value.slice none 0 0, Value.int .i64 (0 : Int)], rfl, rfl, ⟨rfl, rfl⟩, ⟨[], [], [Value.slice none 0 0], [Value.int .i64 (0 : Int)], rfl, rfl, ⟨none, 0, 0, rfl, SlO.nil⟩, ⟨rfl, rfl⟩⟩⟩⟩
instance lf_Compiler_0 : FocC rCompiler 0 (rF .f32) (fun a => a.score.Rate) (fun a b => { a with score := { a.score with Rate := b } }) := ⟨Foc.at (foc_Compiler_score.trans lf_Score_0.f) rfl⟩
instance lf_Compiler_1 : FocC rCompiler 1 (rF .f32) (fun a => a.score.Tuning.Base) (fun a b => { a with score := { a.score with Tuning := { a.score.Tuning with Base := b } } }) := ⟨Foc.at (foc_Compiler_score.trans lf_Score_1.f) rfl⟩
instance lf_Compiler_2 : FocC rCompiler 2 (rF .f32) (fun a => a.score.Tuning.Octave) (fun a b => { a with score := { a.score with Tuning := { a.score.Tuning with Octave := b } } }) := ⟨Foc.at (foc_Compiler_score.trans lf_Score_2.f) rfl⟩
instance lf_Compiler_3 : FocC rCompiler 3 (rSl T_float32 (rF .f32)) (fun a => a.score.Tuning.Degrees) (fun a b => { a with score := { a.score with Tuning := { a.score.Tuning with Degrees := b } } }) := ⟨Foc.at (foc_Compiler_score.trans lf_Score_3.f) rfl⟩
instance lf_Compiler_4 : FocC rCompiler 4 (rSl T_impl_Instrument rInstrument) (fun a => a.score.Instruments) (fun a b => { a with score := { a.score with Instruments := b } }) := ⟨Foc.at (foc_Compiler_score.trans lf_Score_4.f) rfl⟩
instance lf_Compiler_5 : FocC rCompiler 5 (rSl T_impl_Event rEvent) (fun a => a.score.Events) (fun a b => { a with score := { a.score with Events := b } }) := ⟨Foc.at (foc_Compiler_score.trans lf_Score_5.f) rfl⟩
instance lf_Compiler_6 : FocC rCompiler 6 (rI .i64) (fun a => a.time) (fun a b => { a with time := b }) := ⟨Foc.at foc_Compiler_time rfl⟩
instance lf_Compiler_7 : FocC rCompiler 7 (rSl T_impl_loop rLoop) (fun a => a.loops) (fun a b => { a with loops := b }) := ⟨Foc.at foc_Compiler_loops rfl⟩
instance lf_Compiler_8 : FocC rCompiler 8 (rI .i64) (fun a => a.line) (fun a b => { a with line := b }) := ⟨Foc.at foc_Compiler_line rfl⟩
end Go.Sx
