/- Sorting by exchanges of neighbours, plainly; two scores' notes joined. -/
import Derived.Test.YtnhcoeogejgidabGreatDoorLk27
import Derived.Lib.SplitLaws
import Derived.Lib.ParseIntB
import Derived.Lib.ItoaLen
set_option linter.unusedVariables false
set_option linter.unusedSimpArgs false
namespace Go.Sx

def swpL {α : Type} [Inhabited α] (l : List α) (k : Nat) : List α := (l.set k l[k - 1]!).set (k - 1) l[k]!
section
variable {α : Type} [Inhabited α] {l : List α} {k : Nat}
theorem swp_len : (swpL l k).length = l.length := by unfold swpL; rw [List.length_set, List.length_set]
theorem swp_lo (h0 : 0 < k) (hk : k < l.length) : (swpL l k)[k - 1]! = l[k]! := by
  unfold swpL
  exact set_at _ (by rw [List.length_set]; omega)
theorem swp_hi (h0 : 0 < k) (hk : k < l.length) : (swpL l k)[k]! = l[k - 1]! := by
  unfold swpL
  rw [set_off _ (by omega), set_at _ hk]
theorem swp_off {j : Nat} (h1 : j ≠ k) (h2 : j ≠ k - 1) : (swpL l k)[j]! = l[j]! := by
  unfold swpL
  rw [set_off _ (Ne.symm h2), set_off _ (Ne.symm h1)]
theorem swp_perm (h0 : 0 < k) (hk : k < l.length) : (swpL l k).Perm l := by
  unfold swpL
  rw [getElem!_pos l k hk, getElem!_pos l (k - 1) (by omega)]
  exact List.set_set_perm hk (by omega)
end
section
variable {ns : List GNote} {l : List GEvent} {i k : Nat}
def leN (ns : List GNote) (a b : GEvent) : Prop := lt4 (keyN ns b) (keyN ns a) = false
theorem leN_trans {a b c : GEvent} (h1 : leN ns a b) (h2 : leN ns b c) : leN ns a c := by
  unfold leN at *
  rw [Bool.eq_false_iff]
  intro h
  by_cases e : lt4 (keyN ns a) (keyN ns b) = true
  · rw [lt4_trans h e] at h2; cases h2
  · have e := lt4_total (by rw [keyN_len, keyN_len]) (Bool.eq_false_iff.2 e) h1
    rw [e, h2] at h; cases h
theorem leN_of {a b : GEvent} (h : lt4 (keyN ns a) (keyN ns b) = true) : leN ns a b := by
  unfold leN
  rw [Bool.eq_false_iff]
  intro h2
  have := lt4_trans h h2
  rw [lt4_irrefl] at this; cases this
/-- The first ones are in order. -/
structure UpTo (ns : List GNote) (i : Nat) (l : List GEvent) : Prop where
  perm : l.Perm (evsOf ns)
  ord : ∀ a b, a < b → b < i → leN ns l[a]! l[b]!
/-- One of the first i + 1 sinks to its place: it stands at k. -/
structure Sink (ns : List GNote) (i k : Nat) (l : List GEvent) : Prop where
  perm : l.Perm (evsOf ns)
  hk : k ≤ i
  hi : i < l.length
  ord : ∀ a b, a < b → b ≤ i → a ≠ k → b ≠ k → leN ns l[a]! l[b]!
  up : ∀ b, k < b → b ≤ i → leN ns l[k]! l[b]!
theorem Sink.swap (S : Sink ns i k l) (h0 : 0 < k) (h : lt4 (keyN ns l[k]!) (keyN ns l[k - 1]!) = true) : Sink ns i (k - 1) (swpL l k) := by
  have hkl : k < l.length := by have := S.hk; have := S.hi; omega
  have hki := S.hk
  refine ⟨(swp_perm h0 hkl).trans S.perm, by omega, by rw [swp_len]; exact S.hi, fun a b h1 h2 h3 h4 => ?_, fun b h1 h2 => ?_⟩
  · by_cases ea : a = k
    · subst ea
      rw [swp_hi h0 hkl, swp_off (by omega) (by omega)]
      exact S.ord (a - 1) b (by omega) h2 (by omega) (by omega)
    · by_cases eb : b = k
      · subst eb
        rw [swp_hi h0 hkl, swp_off (by omega) (by omega)]
        exact S.ord a (b - 1) (by omega) (by omega) ea (by omega)
      · rw [swp_off ea h3, swp_off eb h4]
        exact S.ord a b h1 h2 ea eb
  · rw [swp_lo h0 hkl]
    by_cases eb : b = k
    · subst eb
      rw [swp_hi h0 hkl]
      exact leN_of h
    · rw [swp_off eb (by omega)]
      exact S.up b (by omega) h2
theorem Sink.done (S : Sink ns i k l) (h : k = 0 ∨ lt4 (keyN ns l[k]!) (keyN ns l[k - 1]!) = false) : UpTo ns (i + 1) l := by
  refine ⟨S.perm, fun a b h1 h2 => ?_⟩
  by_cases ea : a = k
  · subst ea; exact S.up b h1 (by omega)
  · by_cases eb : b = k
    · subst eb
      rcases h with h | h
      · omega
      · by_cases e : a = b - 1
        · subst e; exact h
        · exact leN_trans (S.ord a (b - 1) (by omega) (by omega) ea (by omega)) h
    · exact S.ord a b h1 (by omega) ea eb
theorem UpTo.sorted (U : UpTo ns i l) (hi : l.length ≤ i) : Sorted ns l := by
  refine ⟨U.perm, List.pairwise_iff_getElem.2 fun a b ha hb hab => ?_⟩
  have := U.ord a b hab (by omega)
  rw [getElem!_pos l a ha, getElem!_pos l b hb] at this
  exact this
theorem UpTo.start (hp : l.Perm (evsOf ns)) : UpTo ns 1 l := ⟨hp, fun a b h1 h2 => by omega⟩
/-- Sorted by the program's keys. -/
theorem sorted_keyM {m : List GEvent} (P : l.Perm (evsOf ns)) (Q : m.Perm l) (h : ∀ a b, a < b → b < m.length → lt4 (keyM l m[b]!) (keyM l m[a]!) = false) : Sorted ns m := by
  refine ⟨Q.trans P, List.pairwise_iff_getElem.2 fun a b ha hb hab => ?_⟩
  have := h a b hab hb
  have ma : m[a] ∈ l := Q.mem_iff.1 (List.getElem_mem ha)
  have mb : m[b] ∈ l := Q.mem_iff.1 (List.getElem_mem hb)
  rw [getElem!_pos m a ha, getElem!_pos m b hb, keyM_perm P mb, keyM_perm P ma] at this
  exact this
end
end Go.Sx
/- Plain: texts cut at a byte; numbers that are read. -/
set_option linter.unusedVariables false
set_option linter.unusedSimpArgs false
namespace Go.Sx

/-- A text's bytes as a text. -/
abbrev mkB (l : List UInt8) : ByteArray := ⟨l.toArray⟩
theorem mkB_list (s : ByteArray) : mkB s.data.toList = s := by cases s; simp
theorem mkB_data (l : List UInt8) : (mkB l).data.toList = l := by simp
theorem mkB_inj {a b : List UInt8} (h : mkB a = mkB b) : a = b := by
  have := congrArg (fun x : ByteArray => x.data.toList) h
  simpa using this
/-- A text cut at every instance of a byte. -/
def cutL (c : UInt8) : List UInt8 → List (List UInt8)
  | [] => [[]]
  | b :: l => if b = c then [] :: cutL c l else match cutL c l with
    | [] => [[b]]
    | w :: r => (b :: w) :: r
theorem cut_none {c : UInt8} {a : List UInt8} (h : ∀ x ∈ a, x ≠ c) : cutL c a = [a] := by
  induction a with
  | nil => rfl
  | cons b a ih =>
    unfold cutL
    rw [if_neg (h b (List.mem_cons_self ..)), ih fun x hx => h x (List.mem_cons_of_mem _ hx)]
theorem cut_pre {c : UInt8} {a r : List UInt8} (h : ∀ x ∈ a, x ≠ c) : cutL c (a ++ c :: r) = a :: cutL c r := by
  induction a with
  | nil => show cutL c (c :: r) = _; rw [cutL, if_pos rfl]
  | cons b a ih =>
    show cutL c (b :: (a ++ c :: r)) = _
    rw [cutL, if_neg (h b (List.mem_cons_self ..)), ih fun x hx => h x (List.mem_cons_of_mem _ hx)]
theorem cut_ne (c : UInt8) : ∀ l, cutL c l ≠ []
  | [] => by simp [cutL]
  | b :: l => by
    unfold cutL
    split
    · simp
    · split <;> simp
theorem split_at {l : List UInt8} {c : UInt8} {i : Nat} (h1 : l[i]? = some c) (h2 : ∀ k, k < i → l[k]? ≠ some c) : l = l.take i ++ c :: l.drop (i + 1) ∧ ∀ x ∈ l.take i, x ≠ c := by
  obtain ⟨hi, h1⟩ := List.getElem?_eq_some_iff.1 h1
  refine ⟨?_, fun x hx => ?_⟩
  · rw [← h1, List.getElem_cons_drop, List.take_append_drop]
  · obtain ⟨j, hj, rfl⟩ := List.mem_iff_getElem.1 hx
    rw [List.length_take] at hj
    intro e
    refine h2 j (by omega) ?_
    rw [List.getElem_take] at e
    rw [List.getElem?_eq_getElem (by omega), e]
theorem no_byte {l : List UInt8} {c : UInt8} (h : ∀ k : Nat, l[k]? ≠ some c) : ∀ x ∈ l, x ≠ c := fun x hx e => by
  obtain ⟨j, hj, rfl⟩ := List.mem_iff_getElem.1 hx
  exact h j (by rw [List.getElem?_eq_getElem hj, e])
theorem splitB_cut (c : UInt8) : ∀ (k : Nat) (s : ByteArray), Lib.countB s ⟨#[c]⟩ = k → Lib.splitB ⟨#[c]⟩ 0 k s = (cutL c s.data.toList).map mkB := by
  intro k
  induction k with
  | zero =>
    intro s hs
    rcases Lib.indexB_cases s ⟨#[c]⟩ with e | ⟨i, e, _⟩
    · have e' : Lib.indexByte s.data.toList c = -1 := by rw [← Lib.index_one]; exact e
      rw [cut_none (no_byte (Lib.indexByte_none e')), Lib.splitB_zero, List.map_singleton, mkB_list]
    · have := Lib.countB_hit s ⟨#[c]⟩ i (Nat.le_refl 1) e
      omega
  | succ k ih =>
    intro s hs
    rcases Lib.indexB_cases s ⟨#[c]⟩ with e | ⟨i, e, hle⟩
    · have := Lib.countB_miss s ⟨#[c]⟩ e
      omega
    · have h1 := Lib.countB_hit s ⟨#[c]⟩ i (Nat.le_refl 1) e
      have hsz : (⟨#[c]⟩ : ByteArray).size = 1 := rfl
      rw [hsz] at h1
      have e' : Lib.indexByte s.data.toList c = i := by rw [← Lib.index_one]; exact e
      obtain ⟨f1, f2⟩ := Lib.indexByte_some e'
      obtain ⟨g1, g2⟩ := split_at f1 f2
      rw [Lib.splitB_hit _ _ _ _ _ e, hsz, ih _ (by omega), Lib.extract_to_end, Nat.add_zero]
      conv => rhs; rw [g1]
      rw [cut_pre g2, List.map_cons]
      congr 1
      rw [← mkB_list (s.extract 0 i), Lib.extract_from_zero]
theorem cut_count (c : UInt8) (s : ByteArray) : (cutL c s.data.toList).length = Lib.countB s ⟨#[c]⟩ + 1 := by
  have := congrArg List.length (splitB_cut c _ s rfl)
  rw [List.length_map, Lib.splitB_all (⟨#[c]⟩ : ByteArray) (Nat.le_refl 1) 0 _ s rfl] at this
  exact this.symm
def digs (acc : Nat) : List UInt8 → Option Nat
  | [] => some acc
  | b :: l => if 48 ≤ b.toNat ∧ b.toNat ≤ 57 then digs (acc * 10 + (b.toNat - 48)) l else none
theorem digs_app (acc : Nat) (l r : List UInt8) : digs acc (l ++ r) = (digs acc l).bind fun a => digs a r := by
  induction l generalizing acc with
  | nil => rfl
  | cons b l ih =>
    rw [List.cons_append, digs, digs]
    split
    · exact ih _
    · rfl
theorem dig_byte {k : Nat} (hk : k < 10) : (UInt8.ofNat (48 + k)).toNat = 48 + k := by
  rw [UInt8.toNat_ofNat']; omega
theorem digs_dec (m : Nat) : digs 0 (Lib.decDigits m) = some m := by
  induction m using Nat.strongRecOn with
  | _ m ih =>
    by_cases h : m < 10
    · rw [Lib.decDigits_one h]
      unfold digs
      rw [dig_byte h, if_pos (by omega)]
      simp [digs]
    · rw [Lib.decDigits.eq_def, dif_neg h, digs_app, ih (m / 10) (by omega)]
      show digs (m / 10) [_] = _
      unfold digs
      rw [dig_byte (Nat.mod_lt _ (by omega)), if_pos (by omega)]
      simp only [digs]
      congr 1
      omega
theorem dec_all (m : Nat) : ∀ x ∈ Lib.decDigits m, 48 ≤ x.toNat ∧ x.toNat ≤ 57 := by
  induction m using Nat.strongRecOn with
  | _ m ih =>
    intro x hx
    by_cases h : m < 10
    · rw [Lib.decDigits_one h] at hx
      simp only [List.mem_singleton] at hx
      subst hx
      rw [dig_byte h]; omega
    · rw [Lib.decDigits.eq_def, dif_neg h] at hx
      rcases List.mem_append.1 hx with hx | hx
      · exact ih (m / 10) (by omega) x hx
      · simp only [List.mem_singleton] at hx
        subst hx
        rw [dig_byte (Nat.mod_lt _ (by omega))]; omega
theorem nDig_le : ∀ (k m : Nat), m < 10 ^ (k + 1) → Lib.nDigits m ≤ k + 1
  | 0, m, h => by rw [Lib.nDigits_small (by simpa using h)]; omega
  | k + 1, m, h => by
    by_cases hm : m < 10
    · rw [Lib.nDigits_small hm]; omega
    · rw [Lib.nDigits_big hm]
      have := nDig_le k (m / 10) (by rw [Nat.pow_succ] at h; omega)
      omega
theorem dec_head (m : Nat) (h : 1 ≤ m) : ∃ c r, Lib.decDigits m = c :: r ∧ c ≠ 48 := by
  induction m using Nat.strongRecOn with
  | _ m ih =>
    by_cases hm : m < 10
    · refine ⟨_, [], Lib.decDigits_one hm, fun e => ?_⟩
      have := congrArg UInt8.toNat e
      rw [dig_byte hm] at this
      have e2 : (48 : UInt8).toNat = 48 := rfl
      omega
    · obtain ⟨c, r, e, hc⟩ := ih (m / 10) (by omega) (by omega)
      exact ⟨c, r ++ [UInt8.ofNat (48 + m % 10)], by rw [Lib.decDigits.eq_def, dif_neg hm, e]; rfl, hc⟩
theorem dec_ne (m : Nat) : Lib.decDigits m ≠ [] := fun e => by
  have := Lib.decDigits_length m
  have h2 := Lib.nDigits_pos m
  rw [e] at this
  simp only [List.length_nil] at this
  omega
/-- A number of nine digits at most, without zeros ahead. -/
def numL (l : List UInt8) : Option Nat := if l.length < 1 ∨ 9 < l.length then none else if l.head? = some 48 ∧ 1 < l.length then none else digs 0 l
theorem numL_dec {m : Nat} (h : m < 1000000000) : numL (Lib.decDigits m) = some m := by
  have h1 := Lib.nDigits_pos m
  have h2 := nDig_le 8 m (by simpa using h)
  unfold numL
  rw [Lib.decDigits_length, if_neg (by omega), if_neg, digs_dec]
  rintro ⟨e, hl⟩
  have hm : 1 ≤ m := by
    rcases Nat.eq_zero_or_pos m with rfl | h
    · rw [Lib.nDigits_small (by omega)] at hl; omega
    · exact h
  obtain ⟨c, r, e2, hc⟩ := dec_head m hm
  rw [e2] at e
  exact hc (by simpa using e)
theorem digs_le {l : List UInt8} {acc v : Nat} (h : digs acc l = some v) : acc ≤ v := by
  induction l generalizing acc with
  | nil => simp only [digs, Option.some.injEq] at h; omega
  | cons b l ih =>
    unfold digs at h
    split at h
    · have := ih h; omega
    · cases h
theorem parse_digs {l : List UInt8} {acc v : Nat} (h : digs acc l = some v) (hv : v ≤ 18446744073709551615) : Lib.parseUintM 18446744073709551615 acc l = .ok v := by
  induction l generalizing acc with
  | nil => simp only [digs, Option.some.injEq] at h; subst h; rfl
  | cons b l ih =>
    unfold digs at h
    split at h
    · next hb =>
      have := digs_le h
      unfold Lib.parseUintM
      rw [if_pos hb, if_neg (by omega), if_neg (by omega)]
      exact ih h
    · cases h
theorem parse_dec {m : Nat} (h : m < 9223372036854775808) : Lib.parseIntB 64 (Lib.decDigits m) = .ok (m : Int) := by
  cases e : Lib.decDigits m with
  | nil => exact absurd e (dec_ne m)
  | cons c r =>
    have hc := dec_all m c (by rw [e]; exact List.mem_cons_self ..)
    have p : Lib.parseUintB 64 (c :: r) = .ok m := by
      unfold Lib.parseUintB
      rw [if_neg (by simp), ← e]
      exact parse_digs (digs_dec m) (by omega)
    unfold Lib.parseIntB
    simp only
    rw [if_neg (by omega), p]
    simp only
    rw [if_neg (by omega), if_neg (by omega), if_neg (by omega)]
theorem dec_inj {a b : Nat} (h : Lib.decDigits a = Lib.decDigits b) : a = b := by
  have := digs_dec a
  rw [h, digs_dec b] at this
  exact (Option.some.inj this).symm
theorem dec_no (m : Nat) {c : UInt8} (hc : c.toNat < 48 ∨ 57 < c.toNat) : ∀ x ∈ Lib.decDigits m, x ≠ c := fun x hx e => by
  have := dec_all m x hx
  subst e
  omega
end Go.Sx
