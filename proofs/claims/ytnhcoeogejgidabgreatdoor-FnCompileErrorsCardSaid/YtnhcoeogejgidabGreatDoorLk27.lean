/- The rule's order of events: when a note starts, an event's key, which key is less. -/
import Derived.Test.YtnhcoeogejgidabGreatDoorLr7
import Derived.Test.YtnhcoeogejgidabGreatDoorLm6
set_option linter.unusedVariables false
set_option linter.unusedSimpArgs false
namespace Go.Sx
open Go.Proofs
set_option maxRecDepth 100000
set_option maxHeartbeats 1000000

/-- Four numbers as cells. -/
def keyV (l : List Int) : Array Value := ⟨l.map (.int .i64)⟩
theorem keyV_size (l : List Int) : (keyV l).size = l.length := by unfold keyV; simp
theorem keyV_one (l : List Int) : ∀ v ∈ (keyV l).toList, v.oneCell' = true := fun v hv => by
  obtain ⟨n, _, rfl⟩ := List.mem_map.1 (show v ∈ l.map (Value.int .i64) from hv)
  rfl
/-- The first difference decides. -/
theorem lt4_at : ∀ {n : Nat} {a b : List Int}, n < a.length → n < b.length → (∀ i, i < n → a[i]! = b[i]!) → a[n]! ≠ b[n]! → lt4 a b = decide (a[n]! < b[n]!)
  | _, [], _, h, _, _, _ => by simp at h
  | _, _ :: _, [], _, h, _, _ => by simp at h
  | 0, x :: a, y :: b, _, _, _, h => by
    rw [lt4, if_neg (by simpa using h)]
    simp
  | n + 1, x :: a, y :: b, h1, h2, h3, h => by
    have e := h3 0 (by omega)
    rw [lt4, if_pos (by simpa using e), lt4_at (n := n) (by simpa using h1) (by simpa using h2) (fun i hi => by simpa using h3 (i + 1) (by omega)) (by simpa using h)]
    simp
theorem lt4_same {a b : List Int} (hl : a.length = b.length) (h : ∀ i, i < a.length → a[i]! = b[i]!) : a = b := by
  apply List.ext_getElem hl
  intro i h1 h2
  have := h i h1
  rwa [getElem!_pos a i h1, getElem!_pos b i h2] at this
section
variable {h : Heap}
theorem ev_sz : 0 < rEvent.sz := by decide
end
end Go.Sx
/- Notes and their events, plainly: sorted lists of the events of notes are one; good events are those of notes. -/
set_option linter.unusedVariables false
set_option linter.unusedSimpArgs false
namespace Go.Sx

structure GNote where
  At : Int
  End : Int
  Instrument : Int
  Key : Int
  Force : Nat
deriving Inhabited
def startE (i : Nat) (n : GNote) : GEvent := ⟨n.At, 2, (i : Int), n.Instrument, n.Key, n.Force⟩
def stopE (i : Nat) (n : GNote) : GEvent := ⟨n.End, 1, (i : Int), 0, 0, 0⟩
/-- The events of notes, note by note. -/
def evsOf (ns : List GNote) : List GEvent := ((List.range ns.length).map fun i => [startE i ns[i]!, stopE i ns[i]!]).flatten
theorem evsOf_mem {ns : List GNote} {e : GEvent} : e ∈ evsOf ns ↔ ∃ i, i < ns.length ∧ (e = startE i ns[i]! ∨ e = stopE i ns[i]!) := by
  unfold evsOf
  simp only [List.mem_flatten, List.mem_map, List.mem_range]
  constructor
  · rintro ⟨l, ⟨i, hi, rfl⟩, h⟩
    simp only [List.mem_cons, List.not_mem_nil, or_false] at h
    exact ⟨i, hi, h⟩
  · rintro ⟨i, hi, h⟩
    exact ⟨_, ⟨i, hi, rfl⟩, by simpa using h⟩
theorem evsOf_snoc (ns : List GNote) (n : GNote) : evsOf (ns ++ [n]) = evsOf ns ++ [startE ns.length n, stopE ns.length n] := by
  unfold evsOf
  rw [List.length_append, List.length_singleton, List.range_succ, List.map_append, List.flatten_append]
  congr 1
  · congr 1
    refine List.map_congr_left fun i hi => ?_
    have hi := List.mem_range.1 hi
    have e : (ns ++ [n])[i]! = ns[i]! := by
      rw [getElem!_pos _ i (by simp; omega), getElem!_pos _ i hi, List.getElem_append_left hi]
    rw [e]
  · have e : (ns ++ [n])[ns.length]! = n := by
      rw [getElem!_pos _ _ (by simp), List.getElem_append_right (Nat.le_refl _)]
      simp
    simp only [List.map_cons, List.map_nil, List.flatten_cons, List.flatten_nil, List.append_nil, e]
theorem evsOf_len (ns : List GNote) : (evsOf ns).length = 2 * ns.length := by
  unfold evsOf
  rw [List.length_flatten, List.map_map]
  have : (List.length ∘ fun i : Nat => [startE i ns[i]!, stopE i ns[i]!]) = fun _ => 2 := rfl
  rw [this]
  have key : ∀ l : List Nat, (l.map fun _ => 2).sum = 2 * l.length := fun l => by
    induction l with
    | nil => rfl
    | cons a l ih => simp only [List.map_cons, List.sum_cons, ih, List.length_cons]; omega
  rw [key, List.length_range]
def shN (d : Int) (n : GNote) : GNote := { n with At := n.At + d, End := n.End + d }
def keyN (ns : List GNote) (e : GEvent) : List Int := keyL (isSp e && decide (ns[e.Note.toNat]!.At < e.At)) e
/-- The events of notes, in order. -/
structure Sorted (ns : List GNote) (l : List GEvent) : Prop where
  perm : l.Perm (evsOf ns)
  pw : l.Pairwise fun a b => lt4 (keyN ns b) (keyN ns a) = false
theorem lt4_total : ∀ {a b : List Int}, a.length = b.length → lt4 a b = false → lt4 b a = false → a = b
  | [], [], _, _, _ => rfl
  | [], _ :: _, h, _, _ => by simp at h
  | _ :: _, [], h, _, _ => by simp at h
  | x :: a, y :: b, h, h1, h2 => by
    rw [lt4] at h1 h2
    by_cases e : x = y
    · subst e
      rw [if_pos rfl] at h1 h2
      rw [lt4_total (by simpa using h) h1 h2]
    · rw [if_neg e, decide_eq_false_iff_not] at h1
      rw [if_neg (Ne.symm e), decide_eq_false_iff_not] at h2
      omega
theorem key_inj {ns : List GNote} {a b : GEvent} (ha : a ∈ evsOf ns) (hb : b ∈ evsOf ns) (h : keyN ns a = keyN ns b) : a = b := by
  obtain ⟨i, hi, ea⟩ := evsOf_mem.1 ha
  obtain ⟨j, hj, eb⟩ := evsOf_mem.1 hb
  unfold keyN keyL at h
  simp only [List.cons.injEq, and_true] at h
  obtain ⟨_, _, h3, h4⟩ := h
  rcases ea with rfl | rfl <;> rcases eb with rfl | rfl
  · have h3 : (i : Int) = j := h3
    obtain rfl : i = j := by omega
    rfl
  · exact absurd h4 (by show ¬ (if (2 : Int) = 1 then (1 : Int) else 0) = if (1 : Int) = 1 then 1 else 0; decide)
  · exact absurd h4 (by show ¬ (if (1 : Int) = 1 then (1 : Int) else 0) = if (2 : Int) = 1 then 1 else 0; decide)
  · have h3 : (i : Int) = j := h3
    obtain rfl : i = j := by omega
    rfl
theorem keyN_len (ns : List GNote) (e : GEvent) : (keyN ns e).length = 4 := rfl
theorem Sorted.unique {ns : List GNote} {l m : List GEvent} (h1 : Sorted ns l) (h2 : Sorted ns m) : l = m := by
  refine List.Perm.eq_of_pairwise (le := fun a b => lt4 (keyN ns b) (keyN ns a) = false) ?_ h1.pw h2.pw (h1.perm.trans h2.perm.symm)
  intro a b ha hb k1 k2
  exact key_inj (h1.perm.mem_iff.1 ha) (h2.perm.mem_iff.1 hb) (lt4_total (by rw [keyN_len, keyN_len]) k2 k1)
/-- What the notes tell that have been taken of the first i events. -/
structure NInv (es : List GEvent) (i : Nat) (ns : List GNote) : Prop where
  len : ns.length = es.length / 2
  st : ∀ j, j < i → isSt es[j]! = true → ns[es[j]!.Note.toNat]!.At = es[j]!.At ∧ ns[es[j]!.Note.toNat]!.Instrument = es[j]!.Instrument ∧ ns[es[j]!.Note.toNat]!.Key = es[j]!.Key ∧ ns[es[j]!.Note.toNat]!.Force = es[j]!.Force
  sp : ∀ j, j < i → isSp es[j]! = true → ns[es[j]!.Note.toNat]!.End = es[j]!.At
section
variable {es : List GEvent} {ni : Int} {ns : List GNote}
theorem NInv.zero (h : ns.length = es.length / 2) : NInv es 0 ns := ⟨h, fun j hj => absurd hj (Nat.not_lt_zero j), fun j hj => absurd hj (Nat.not_lt_zero j)⟩
theorem set_at {α : Type} [Inhabited α] {l : List α} {i : Nat} (x : α) (hi : i < l.length) : (l.set i x)[i]! = x := by
  rw [getElem!_pos _ i (by rw [List.length_set]; exact hi), List.getElem_set_self]
theorem set_off {α : Type} [Inhabited α] {l : List α} {i j : Nat} (x : α) (h : i ≠ j) : (l.set i x)[j]! = l[j]! := by
  by_cases hj : j < l.length
  · rw [getElem!_pos _ j (by rw [List.length_set]; exact hj), getElem!_pos _ j hj, List.getElem_set_ne h]
  · rw [getElem!_neg _ j (by rw [List.length_set]; exact hj), getElem!_neg _ j hj]
theorem NInv.start (G : EvGood es ni) {i : Nat} (hi : i < es.length) (I : NInv es i ns) (hs : isSt es[i]! = true) :
    NInv es (i + 1) (ns.set es[i]!.Note.toNat ⟨es[i]!.At, 0, es[i]!.Instrument, es[i]!.Key, es[i]!.Force⟩) := by
  obtain ⟨n0, n1⟩ := G.note i hi
  have hb : es[i]!.Note.toNat < ns.length := by rw [I.len]; omega
  refine ⟨by rw [List.length_set, I.len], fun j hj h => ?_, fun j hj h => ?_⟩
  · by_cases e : j = i
    · subst e
      rw [set_at _ hb]
      exact ⟨rfl, rfl, rfl, rfl⟩
    · have hj' : j < es.length := by omega
      have : es[i]!.Note.toNat ≠ es[j]!.Note.toNat := fun k => e (G.st1 j i hj' hi h hs (by have := (G.note j hj').1; omega))
      rw [set_off _ this]
      exact I.st j (by omega) h
  · by_cases e : j = i
    · subst e
      rcases kind_of (G.part j hi) with k | k
      · rw [k.2] at hs; cases hs
      · rw [k.2] at h; cases h
    · have hj' : j < es.length := by omega
      have : es[i]!.Note.toNat ≠ es[j]!.Note.toNat := fun k => by
        have := G.before hj' hi hs h (by have := (G.note j hj').1; omega)
        omega
      rw [set_off _ this]
      exact I.sp j (by omega) h
theorem NInv.stop (G : EvGood es ni) {i : Nat} (hi : i < es.length) (I : NInv es i ns) (hs : isSp es[i]! = true) :
    NInv es (i + 1) (ns.set es[i]!.Note.toNat { ns[es[i]!.Note.toNat]! with End := es[i]!.At }) := by
  obtain ⟨n0, n1⟩ := G.note i hi
  have hb : es[i]!.Note.toNat < ns.length := by rw [I.len]; omega
  refine ⟨by rw [List.length_set, I.len], fun j hj h => ?_, fun j hj h => ?_⟩
  · by_cases e : j = i
    · subst e
      rcases kind_of (G.part j hi) with k | k
      · rw [k.2] at h; cases h
      · rw [k.2] at hs; cases hs
    · by_cases e2 : es[i]!.Note.toNat = es[j]!.Note.toNat
      · rw [← e2, set_at _ hb]
        have := I.st j (by omega) h
        rw [← e2] at this
        exact this
      · rw [set_off _ e2]
        exact I.st j (by omega) h
  · by_cases e : j = i
    · subst e
      rw [set_at _ hb]
    · have hj' : j < es.length := by omega
      have : es[i]!.Note.toNat ≠ es[j]!.Note.toNat := fun k => e (G.sp1 j i hj' hi h hs (by have := (G.note j hj').1; omega))
      rw [set_off _ this]
      exact I.sp j (by omega) h
theorem full_notes {n : Nat} {l : List Int} (hd : l.Nodup) (hr : ∀ x ∈ l, 0 ≤ x ∧ x < n) (hl : l.length = n) {k : Nat} (hk : k < n) : (k : Int) ∈ l := by
  apply Classical.byContradiction
  intro h
  have := nodup_le n ((k : Int) :: l) (List.nodup_cons.2 ⟨h, hd⟩) fun x hx => by
    rcases List.mem_cons.1 hx with rfl | hx
    · omega
    · exact hr x hx
  rw [List.length_cons] at this
  omega
theorem EvGood.all (G : EvGood es ni) (p : GEvent → Bool) (hp : p = isSt ∨ p = isSp) {k : Nat} (hk : k < es.length / 2) : ∃ j, j < es.length ∧ p es[j]! = true ∧ es[j]!.Note = (k : Int) := by
  have d1 := (nodup_at (es := es) isSt).2 G.st1
  have d2 := (nodup_at (es := es) isSp).2 G.sp1
  have r1 := notes_in (es := es) isSt G.note
  have r2 := notes_in (es := es) isSp G.note
  have l1 := nodup_le _ _ d1 r1
  have l2 := nodup_le _ _ d2 r2
  have hs := part_kinds G.part
  rw [List.length_map] at l1 l2
  have he := G.even
  have key : (k : Int) ∈ (es.filter p).map GEvent.Note := by
    rcases hp with rfl | rfl
    · exact full_notes d1 r1 (by rw [List.length_map]; omega) hk
    · exact full_notes d2 r2 (by rw [List.length_map]; omega) hk
  obtain ⟨e, he, hn⟩ := List.mem_map.1 key
  obtain ⟨h1, h2⟩ := List.mem_filter.1 he
  obtain ⟨j, hj, rfl⟩ := List.mem_iff_getElem.1 h1
  exact ⟨j, hj, by rw [getElem!_pos es j hj]; exact h2, by rw [getElem!_pos es j hj]; exact hn⟩
theorem st_ev {e : GEvent} (h : isSt e = true) : e.Kind = 2 := by unfold isSt at h; simpa using h
theorem sp_ev {e : GEvent} (h : isSp e = true) : e.Kind = 1 := by unfold isSp at h; simpa using h
theorem sp_zero {e : GEvent} (h : evPart ni e = true) (hs : isSp e = true) : e.Instrument = 0 ∧ e.Key = 0 ∧ e.Force = 0 := by
  unfold evPart at h
  rw [if_pos (sp_ev hs)] at h
  simp only [Bool.and_eq_true, beq_iff_eq] at h
  exact ⟨h.2.1.1, h.2.1.2, h.2.2⟩
theorem NInv.startE (G : EvGood es ni) (I : NInv es es.length ns) {j : Nat} (hj : j < es.length) (hs : isSt es[j]! = true) : es[j]! = Sx.startE es[j]!.Note.toNat ns[es[j]!.Note.toNat]! := by
  obtain ⟨h1, h2, h3, h4⟩ := I.st j hj hs
  have k := st_ev hs
  have n0 := (G.note j hj).1
  unfold Sx.startE
  rw [h1, h2, h3, h4, Int.toNat_of_nonneg n0]
  generalize es[j]! = e at k ⊢
  cases e; simp only at k; subst k; rfl
theorem NInv.stopE (G : EvGood es ni) (I : NInv es es.length ns) {j : Nat} (hj : j < es.length) (hs : isSp es[j]! = true) : es[j]! = Sx.stopE es[j]!.Note.toNat ns[es[j]!.Note.toNat]! := by
  have h1 := I.sp j hj hs
  have k := sp_ev hs
  obtain ⟨k1, k2, k3⟩ := sp_zero (G.part j hj) hs
  have n0 := (G.note j hj).1
  unfold Sx.stopE
  rw [h1, Int.toNat_of_nonneg n0]
  generalize es[j]! = e at k k1 k2 k3 ⊢
  cases e; simp only at k k1 k2 k3; subst k k1 k2 k3; rfl
theorem EvGood.nodup (G : EvGood es ni) : es.Nodup := by
  rw [List.nodup_iff_pairwise_ne, List.pairwise_iff_getElem]
  intro i j hi hj hij e
  have := chain (fun k => keyOf es es[k]!) G.ord hij hj
  rw [getElem!_pos es i hi, getElem!_pos es j hj, e, lt4_irrefl] at this
  cases this
theorem evsOf_nodup (ns : List GNote) : (evsOf ns).Nodup := by
  have : ∀ k, k ≤ ns.length → (((List.range k).map fun i => [Sx.startE i ns[i]!, Sx.stopE i ns[i]!]).flatten).Nodup := by
    intro k
    induction k with
    | zero => intro _; exact List.nodup_nil
    | succ k ih =>
      intro hk
      rw [List.range_succ, List.map_append, List.flatten_append, List.nodup_append]
      refine ⟨ih (by omega), ?_, ?_⟩
      · simp only [List.map_cons, List.map_nil, List.flatten_cons, List.flatten_nil, List.append_nil, List.nodup_cons, List.mem_singleton, List.not_mem_nil, not_false_eq_true, List.nodup_nil, and_true]
        intro e
        have := congrArg GEvent.Kind e
        exact absurd this (by show ¬ (2 : Int) = 1; decide)
      · intro a ha b hb e
        subst e
        simp only [List.mem_flatten, List.mem_map, List.mem_range] at ha
        obtain ⟨l, ⟨i, hi, rfl⟩, h⟩ := ha
        simp only [List.map_cons, List.map_nil, List.flatten_cons, List.flatten_nil, List.append_nil, List.mem_cons, List.not_mem_nil, or_false] at hb h
        have e1 : a.Note = (k : Int) := by rcases hb with rfl | rfl <;> rfl
        have e2 : a.Note = (i : Int) := by rcases h with rfl | rfl <;> rfl
        omega
  exact this _ (Nat.le_refl _)
theorem NInv.perm (G : EvGood es ni) (I : NInv es es.length ns) : es.Perm (evsOf ns) := by
  refine (List.perm_ext_iff_of_nodup G.nodup (evsOf_nodup ns)).2 fun e => ⟨fun h => ?_, fun h => ?_⟩
  · obtain ⟨j, hj, rfl⟩ := List.mem_iff_getElem.1 h
    have n := G.note j hj
    rw [← getElem!_pos es j hj]
    refine evsOf_mem.2 ⟨es[j]!.Note.toNat, by rw [I.len]; omega, ?_⟩
    rcases kind_of (G.part j hj) with k | k
    · exact .inr (I.stopE G hj k.1)
    · exact .inl (I.startE G hj k.1)
  · obtain ⟨i, hi, h⟩ := evsOf_mem.1 h
    rw [I.len] at hi
    rcases h with rfl | rfl
    · obtain ⟨j, hj, hs, hn⟩ := G.all isSt (.inl rfl) hi
      have := I.startE G hj hs
      rw [hn, Int.toNat_natCast] at this
      rw [← this, getElem!_pos es j hj]
      exact List.getElem_mem hj
    · obtain ⟨j, hj, hs, hn⟩ := G.all isSp (.inr rfl) hi
      have := I.stopE G hj hs
      rw [hn, Int.toNat_natCast] at this
      rw [← this, getElem!_pos es j hj]
      exact List.getElem_mem hj
/-- A note ends no earlier than it starts. -/
theorem NInv.le (G : EvGood es ni) (I : NInv es es.length ns) {k : Nat} (hk : k < ns.length) : ns[k]!.At ≤ ns[k]!.End := by
  rw [I.len] at hk
  obtain ⟨j, hj, hs, hn⟩ := G.all isSp (.inr rfl) hk
  obtain ⟨i, hi, h1, h2, h3⟩ := G.pair j hj hs
  have e1 := (I.st i hi h1).1
  have e2 := I.sp j hj hs
  rw [h2] at e1
  rw [hn, Int.toNat_natCast] at e1 e2
  omega
theorem NInv.late (G : EvGood es ni) (I : NInv es es.length ns) (B : Int) : (∀ e ∈ es, e.At ≤ B) ↔ ∀ k, k < ns.length → ns[k]!.End ≤ B := by
  have P := I.perm G
  constructor
  · intro h k hk
    exact h (Sx.stopE k ns[k]!) (P.mem_iff.2 (evsOf_mem.2 ⟨k, hk, .inr rfl⟩))
  · intro h e he
    obtain ⟨k, hk, e1⟩ := evsOf_mem.1 (P.mem_iff.1 he)
    have := h k hk
    rcases e1 with rfl | rfl
    · have := I.le G hk
      show ns[k]!.At ≤ B
      omega
    · exact this
theorem own_perm (P : es.Perm (evsOf ns)) {k : Nat} (hk : k < ns.length) : ownA es (k : Int) = some ns[k]!.At := by
  have hm : Sx.startE k ns[k]! ∈ es := P.mem_iff.2 (evsOf_mem.2 ⟨k, hk, .inl rfl⟩)
  obtain ⟨j, hj, e⟩ := List.mem_iff_getElem.1 hm
  have e : es[j]! = Sx.startE k ns[k]! := by rw [getElem!_pos es j hj, e]
  obtain ⟨a, ha⟩ := own_of (es := es) hj (by rw [e]; rfl)
  rw [e] at ha
  have ha : ownA es (k : Int) = some a := ha
  obtain ⟨i, hi, h1, h2, h3⟩ := own_some ha
  have hm2 : es[i]! ∈ evsOf ns := P.mem_iff.1 (by rw [getElem!_pos es i hi]; exact List.getElem_mem hi)
  obtain ⟨q, hq, h⟩ := evsOf_mem.1 hm2
  rcases h with h | h
  · rw [h] at h2 h3
    have h2 : (q : Int) = k := h2
    obtain rfl : q = k := by omega
    rw [ha, ← h3]; rfl
  · rw [h] at h1
    cases h1
theorem keyM_perm (P : es.Perm (evsOf ns)) {e : GEvent} (he : e ∈ es) : keyM es e = keyN ns e := by
  unfold keyM keyN lateM
  obtain ⟨k, hk, h⟩ := evsOf_mem.1 (P.mem_iff.1 he)
  have hn : e.Note = (k : Int) := by rcases h with rfl | rfl <;> rfl
  rw [hn, own_perm P hk, Int.toNat_natCast]
end
end Go.Sx
