/- Events of notes, plainly: which lists of events are good; that two ways of asking it agree. -/
import Derived.Test.YtnhcoeogejgidabGreatDoorTabE
import Derived.Test.YtnhcoeogejgidabGreatDoorLr7
set_option linter.unusedVariables false
set_option linter.unusedSimpArgs false
namespace Go.Sx

/-- Lists of numbers ordered by their first difference. -/
def lt4 : List Int → List Int → Bool
  | a :: els, b :: bs => if a = b then lt4 els bs else decide (a < b)
  | _, _ => false
theorem lt4_cons {a b : Int} {els bs : List Int} : lt4 (a :: els) (b :: bs) = true ↔ a < b ∨ a = b ∧ lt4 els bs = true := by
  rw [lt4]
  split
  · next e =>
    subst e
    constructor
    · exact fun h => .inr ⟨rfl, h⟩
    · rintro (h | h)
      · omega
      · exact h.2
  · next e =>
    rw [decide_eq_true_iff]
    constructor
    · exact .inl
    · rintro (h | h)
      · exact h
      · exact absurd h.1 e
theorem lt4_irrefl : ∀ l : List Int, lt4 l l = false
  | [] => rfl
  | a :: l => by rw [lt4, if_pos rfl]; exact lt4_irrefl l
theorem lt4_trans : ∀ {a b c : List Int}, lt4 a b = true → lt4 b c = true → lt4 a c = true
  | [], _, _, h, _ => by cases h
  | _ :: _, [], _, h, _ => by simp [lt4] at h
  | _ :: _, _ :: _, [], _, h => by simp [lt4] at h
  | x :: a, y :: b, z :: c, h1, h2 => by
    rw [lt4_cons] at *
    rcases h1 with h1 | ⟨rfl, h1⟩ <;> rcases h2 with h2 | ⟨rfl, h2⟩
    · exact .inl (by omega)
    · exact .inl h1
    · exact .inl h2
    · exact .inr ⟨rfl, lt4_trans h1 h2⟩
def isSt (e : GEvent) : Bool := e.Kind == 2
def isSp (e : GEvent) : Bool := e.Kind == 1
def evPart (ni : Int) (e : GEvent) : Bool :=
  inR e.At 0 100000 && (if e.Kind = 1 then e.Instrument == 0 && e.Key == 0 && e.Force == 0 else e.Kind == 2 && inR e.Instrument 0 (ni - 1) && inR e.Key (-100) 100 && fin e.Force)
def startEv (es : List GEvent) (note : Int) : Option GEvent := es.find? fun e => isSt e && e.Note == note
/-- The time at which a note starts, or -1. -/
def startAt (es : List GEvent) (note : Int) : Int := match startEv es note with | some e => e.At | none => -1
def keyL (late : Bool) (e : GEvent) : List Int := [e.At, if late then 0 else 1, e.Note, if e.Kind = 1 then 1 else 0]
def keyOf (es : List GEvent) (e : GEvent) : List Int := keyL (isSp e && decide (startAt es e.Note < e.At)) e
structure EvGood (es : List GEvent) (ni : Int) : Prop where
  even : es.length = 2 * (es.length / 2)
  most : es.length / 2 ≤ 64
  part : ∀ i, i < es.length → evPart ni es[i]! = true
  note : ∀ i, i < es.length → 0 ≤ es[i]!.Note ∧ es[i]!.Note < (es.length / 2 : Nat)
  st1 : ∀ i j, i < es.length → j < es.length → isSt es[i]! = true → isSt es[j]! = true → es[i]!.Note = es[j]!.Note → i = j
  sp1 : ∀ i j, i < es.length → j < es.length → isSp es[i]! = true → isSp es[j]! = true → es[i]!.Note = es[j]!.Note → i = j
  pair : ∀ i, i < es.length → isSp es[i]! = true → ∃ j, j < es.length ∧ isSt es[j]! = true ∧ es[j]!.Note = es[i]!.Note ∧ es[j]!.At ≤ es[i]!.At
  ord : ∀ i, i + 1 < es.length → lt4 (keyOf es es[i]!) (keyOf es es[i + 1]!) = true
noncomputable def evOk (es : List GEvent) (ni : Int) : Bool := @decide (EvGood es ni) (Classical.propDecidable _)
theorem evOk_iff {es : List GEvent} {ni : Int} : evOk es ni = true ↔ EvGood es ni := by unfold evOk; exact @decide_eq_true_iff _ (Classical.propDecidable _)
section
variable {es : List GEvent} {ni : Int}
theorem chain (f : Nat → List Int) {n : Nat} (h : ∀ i, i + 1 < n → lt4 (f i) (f (i + 1)) = true) : ∀ {i j}, i < j → j < n → lt4 (f i) (f j) = true := by
  intro i j hij hj
  induction j with
  | zero => omega
  | succ j ih =>
    by_cases e : i = j
    · subst e; exact h i hj
    · exact lt4_trans (ih (by omega) (by omega)) (h j hj)
theorem kind_of {e : GEvent} (h : evPart ni e = true) : isSp e = true ∧ isSt e = false ∨ isSt e = true ∧ isSp e = false := by
  unfold evPart at h
  unfold isSp isSt
  rw [Bool.and_eq_true] at h
  by_cases hk : e.Kind = 1
  · rw [hk]; exact .inl ⟨rfl, rfl⟩
  · rw [if_neg hk] at h
    simp only [Bool.and_eq_true] at h
    have : e.Kind = 2 := by have := h.2.1.1.1; simpa using this
    rw [this]; exact .inr ⟨rfl, rfl⟩
/-- A start that is the only one of its note is the one that is found. -/
theorem start_of {j : Nat} (hj : j < es.length) (hs : isSt es[j]! = true) (h1 : ∀ i, i < es.length → isSt es[i]! = true → es[i]!.Note = es[j]!.Note → i = j) : startAt es es[j]!.Note = es[j]!.At := by
  unfold startAt startEv
  cases hf : es.find? fun e => isSt e && e.Note == es[j]!.Note with
  | none =>
    have := List.find?_eq_none.1 hf es[j]! (by rw [getElem!_pos es j hj]; exact List.getElem_mem hj)
    exact absurd (by rw [hs]; simp) this
  | some e =>
    have hm := List.mem_of_find?_eq_some hf
    have hp := List.find?_some hf
    obtain ⟨i, hi, rfl⟩ := List.mem_iff_getElem.1 hm
    simp only [Bool.and_eq_true, beq_iff_eq] at hp
    have := h1 i hi (by rw [getElem!_pos es i hi]; exact hp.1) (by rw [getElem!_pos es i hi]; exact hp.2)
    subst this
    show es[i].At = es[i]!.At
    rw [getElem!_pos es i hi]
theorem EvGood.before (G : EvGood es ni) {i j : Nat} (hi : i < es.length) (hj : j < es.length) (hs : isSt es[j]! = true) (hp : isSp es[i]! = true) (hn : es[j]!.Note = es[i]!.Note) : j < i := by
  obtain ⟨j', h1, h2, h3, h4⟩ := G.pair i hi hp
  obtain rfl : j' = j := G.st1 j' j h1 hj h2 hs (by rw [h3, hn])
  have hsa := start_of hj hs (fun i hi h e => G.st1 i j' hi hj h hs e)
  by_cases hlt : j' < i
  · exact hlt
  · exfalso
    have hsp : isSp es[j']! = false := by
      rcases kind_of (G.part j' hj) with h | h
      · rw [h.2] at hs; cases hs
      · exact h.2
    have hne : i ≠ j' := fun e => by subst e; rw [hp] at hsp; cases hsp
    have h5 := chain (fun k => keyOf es es[k]!) G.ord (i := i) (j := j') (by omega) hj
    have h6 : lt4 (keyOf es es[j']!) (keyOf es es[i]!) = true := by
      unfold keyOf keyL
      rw [hsp, hp, ← hn, hsa]
      have k1 : es[i]!.Kind = 1 := by unfold isSp at hp; simpa using hp
      have k2 : ¬ es[j']!.Kind = 1 := by unfold isSp at hsp; simpa using hsp
      rw [if_neg k2, if_pos k1]
      simp only [Bool.false_and, Bool.true_and]
      rw [lt4_cons]
      rcases Int.lt_or_eq_of_le h4 with h | h
      · exact .inl h
      · refine .inr ⟨h, ?_⟩
        rw [decide_eq_false (p := es[j']!.At < es[i]!.At) (by omega)]
        rw [lt4_cons]
        refine .inr ⟨rfl, ?_⟩
        rw [lt4_cons]
        refine .inr ⟨rfl, ?_⟩
        rw [lt4_cons]
        exact .inl (by decide)
    have := lt4_trans h5 h6
    rw [lt4_irrefl] at this
    cases this
/-- How many of the first i events are starts, or stops, of a note. -/
def cntB (p : GEvent → Bool) (es : List GEvent) (i : Nat) (note : Int) : Nat := (es.take i).countP fun e => p e && e.Note == note
theorem cntB_pos {p : GEvent → Bool} {i : Nat} (hi : i ≤ es.length) {note : Int} : 0 < cntB p es i note ↔ ∃ j, j < i ∧ p es[j]! = true ∧ es[j]!.Note = note := by
  unfold cntB
  rw [List.countP_pos_iff]
  constructor
  · rintro ⟨e, hm, hp⟩
    obtain ⟨j, hj, rfl⟩ := List.mem_iff_getElem.1 hm
    rw [List.length_take] at hj
    simp only [Bool.and_eq_true, beq_iff_eq, List.getElem_take] at hp
    exact ⟨j, by omega, by rw [getElem!_pos es j (by omega)]; exact hp.1, by rw [getElem!_pos es j (by omega)]; exact hp.2⟩
  · rintro ⟨j, hj, h1, h2⟩
    rw [getElem!_pos es j (by omega)] at h1 h2
    refine ⟨es[j]'(by omega), List.mem_iff_getElem.2 ⟨j, by rw [List.length_take]; omega, by rw [List.getElem_take]⟩, ?_⟩
    simp [h1, h2]
/-- What the rule asks of an event, the counts of those before it known. -/
structure StepS (es : List GEvent) (ni : Int) (i : Nat) : Prop where
  part : evPart ni es[i]! = true
  note : 0 ≤ es[i]!.Note ∧ es[i]!.Note < (es.length / 2 : Nat)
  st : isSt es[i]! = true → cntB isSp es i es[i]!.Note = 0 ∧ cntB isSt es i es[i]!.Note = 0
  sp : isSp es[i]! = true → 0 < cntB isSt es i es[i]!.Note ∧ cntB isSp es i es[i]!.Note = 0
theorem EvGood.stepS (G : EvGood es ni) {i : Nat} (hi : i < es.length) : StepS es ni i := by
  have z : ∀ {n : Nat}, ¬ 0 < n → n = 0 := fun h => by omega
  refine ⟨G.part i hi, G.note i hi, fun hs => ⟨?_, ?_⟩, fun hp => ⟨?_, ?_⟩⟩
  · refine z fun h => ?_
    obtain ⟨j, h1, h2, h3⟩ := (cntB_pos (by omega)).1 h
    have := G.before (i := j) (j := i) (by omega) hi hs h2 h3.symm
    omega
  · refine z fun h => ?_
    obtain ⟨j, h1, h2, h3⟩ := (cntB_pos (by omega)).1 h
    have := G.st1 j i (by omega) hi h2 hs h3
    omega
  · obtain ⟨j, h1, h2, h3, _⟩ := G.pair i hi hp
    exact (cntB_pos (by omega)).2 ⟨j, G.before hi h1 h2 hp h3, h2, h3⟩
  · refine z fun h => ?_
    obtain ⟨j, h1, h2, h3⟩ := (cntB_pos (by omega)).1 h
    have := G.sp1 j i (by omega) hi h2 hp h3
    omega
/-- The starts, and the stops, one behind the other. -/
def pairsOf (p : GEvent → Bool) (f : GEvent → Value) (es : List GEvent) : List (Int × Value) := (es.filter p).map fun e => (e.Note, f e)
/-- A map to which pairs have been put one by one. -/
def putAll (l : List (Int × Value)) : List (Int × Value) := l.foldl (fun m p => mset m p.1 p.2) []
theorem putAll_snoc (l : List (Int × Value)) (p : Int × Value) : putAll (l ++ [p]) = mset (putAll l) p.1 p.2 := by unfold putAll; rw [List.foldl_append]; rfl
theorem putAll_find (l : List (Int × Value)) (n : Int) : mfind (putAll l) n = (l.reverse.find? fun p => p.1 == n).map (·.2) := by
  suffices h : ∀ r : List (Int × Value), mfind (putAll r.reverse) n = (r.find? fun p => p.1 == n).map (·.2) by
    have := h l.reverse
    rwa [List.reverse_reverse] at this
  intro r
  induction r with
  | nil => rfl
  | cons p r ih =>
    rw [List.reverse_cons, putAll_snoc, mfind_mset, List.find?_cons, ih]
    by_cases e : p.1 = n
    · rw [if_pos e.symm, show (p.1 == n) = true by simpa using e]; rfl
    · rw [if_neg (fun h => e h.symm), show (p.1 == n) = false by simpa using e]
/-- Different numbers below n are at most n. -/
theorem nodup_le : ∀ (n : Nat) (l : List Int), l.Nodup → (∀ x ∈ l, 0 ≤ x ∧ x < n) → l.length ≤ n
  | 0, [], _, _ => Nat.le_refl _
  | 0, x :: l, _, h => by have := h x (.head _); omega
  | n + 1, l, hd, h => by
    have h1 : (l.filter fun x => x != (n : Int)).length ≤ n := by
      refine nodup_le n _ (hd.filter _) fun x hx => ?_
      obtain ⟨hm, hne⟩ := List.mem_filter.1 hx
      have := h x hm
      have hne : x ≠ (n : Int) := by simpa using hne
      omega
    have h2 : l.length ≤ (l.filter fun x => x != (n : Int)).length + 1 := by
      clear h h1
      induction l with
      | nil => simp
      | cons a l ih =>
        rw [List.nodup_cons] at hd
        rw [List.filter_cons]
        by_cases e : a = (n : Int)
        · subst e
          rw [if_neg (by simp)]
          have : l.filter (fun x => x != (n : Int)) = l := List.filter_eq_self.2 fun x hx => by
            have : x ≠ (n : Int) := fun e => hd.1 (e ▸ hx)
            simpa using this
          rw [this, List.length_cons]
          omega
        · rw [if_pos (by simpa using e), List.length_cons, List.length_cons]
          have := ih hd.2
          omega
    omega
/-- The time of the last start of a note. -/
def ownA (es : List GEvent) (n : Int) : Option Int := ((es.filter isSt).reverse.find? fun e => e.Note == n).map (·.At)
def ownM (es : List GEvent) : List (Int × Value) := putAll (pairsOf isSt (fun e => .int .i64 e.At) es)
theorem ownM_find (es : List GEvent) (n : Int) : mfind (ownM es) n = (ownA es n).map (.int .i64) := by
  unfold ownM ownA
  rw [putAll_find]
  unfold pairsOf
  rw [← List.map_reverse, List.find?_map, Option.map_map, Option.map_map]
  rfl
theorem own_some {n a : Int} (h : ownA es n = some a) : ∃ j, j < es.length ∧ isSt es[j]! = true ∧ es[j]!.Note = n ∧ es[j]!.At = a := by
  unfold ownA at h
  cases hf : (es.filter isSt).reverse.find? fun e => e.Note == n with
  | none => rw [hf] at h; cases h
  | some e =>
    rw [hf] at h
    have ha : e.At = a := by simpa using h
    have hm := List.mem_of_find?_eq_some hf
    have hp := List.find?_some hf
    rw [List.mem_reverse, List.mem_filter] at hm
    obtain ⟨j, hj, rfl⟩ := List.mem_iff_getElem.1 hm.1
    have e := getElem!_pos es j hj
    exact ⟨j, hj, by rw [e]; exact hm.2, by rw [e]; simpa using hp, by rw [e]; exact ha⟩
theorem own_of {j : Nat} (hj : j < es.length) (hs : isSt es[j]! = true) : ∃ a, ownA es es[j]!.Note = some a := by
  unfold ownA
  cases hf : (es.filter isSt).reverse.find? fun e => e.Note == es[j]!.Note with
  | none =>
    have := List.find?_eq_none.1 hf es[j]! (by rw [List.mem_reverse, List.mem_filter]; exact ⟨by rw [getElem!_pos es j hj]; exact List.getElem_mem hj, hs⟩)
    simp at this
  | some e => exact ⟨_, rfl⟩
def lateM (es : List GEvent) (e : GEvent) : Bool := isSp e && (match ownA es e.Note with | some a => decide (a < e.At) | none => false)
def keyM (es : List GEvent) (e : GEvent) : List Int := keyL (lateM es e) e
theorem nodup_at (p : GEvent → Bool) : ((es.filter p).map GEvent.Note).Nodup ↔ ∀ i j, i < es.length → j < es.length → p es[i]! = true → p es[j]! = true → es[i]!.Note = es[j]!.Note → i = j := by
  unfold List.Nodup
  rw [List.pairwise_map, List.pairwise_filter, List.pairwise_iff_getElem]
  constructor
  · intro h i j hi hj h1 h2 hn
    rcases Nat.lt_trichotomy i j with hlt | rfl | hlt
    · rw [getElem!_pos es i hi] at h1 hn
      rw [getElem!_pos es j hj] at h2 hn
      exact absurd hn (h i j hi hj hlt h1 h2)
    · rfl
    · rw [getElem!_pos es i hi] at h1 hn
      rw [getElem!_pos es j hj] at h2 hn
      exact absurd hn.symm (h j i hj hi hlt h2 h1)
  · intro h i j hi hj hlt h1 h2 hn
    have := h i j hi hj (by rw [getElem!_pos es i hi]; exact h1) (by rw [getElem!_pos es j hj]; exact h2) (by rw [getElem!_pos es i hi, getElem!_pos es j hj]; exact hn)
    omega
theorem both_len (h : ∀ e ∈ es, isSp e = true ∧ isSt e = false ∨ isSt e = true ∧ isSp e = false) : (es.filter isSt).length + (es.filter isSp).length = es.length := by
  induction es with
  | nil => rfl
  | cons e es ih =>
    have := ih fun x hx => h x (.tail _ hx)
    rcases h e (.head _) with ⟨h1, h2⟩ | ⟨h1, h2⟩
    · rw [List.filter_cons_of_neg (by rw [h2]; decide), List.filter_cons_of_pos h1, List.length_cons, List.length_cons]; omega
    · rw [List.filter_cons_of_pos h1, List.filter_cons_of_neg (by rw [h2]; decide), List.length_cons, List.length_cons]; omega
theorem part_kinds (h : ∀ i, i < es.length → evPart ni es[i]! = true) : (es.filter isSt).length + (es.filter isSp).length = es.length := both_len fun e he => by
  obtain ⟨i, hi, rfl⟩ := List.mem_iff_getElem.1 he
  have := h i hi
  rw [getElem!_pos es i hi] at this
  exact kind_of this
theorem notes_in (p : GEvent → Bool) {n : Nat} (h : ∀ i, i < es.length → 0 ≤ es[i]!.Note ∧ es[i]!.Note < n) : ∀ x ∈ (es.filter p).map GEvent.Note, 0 ≤ x ∧ x < n := fun x hx => by
  obtain ⟨e, he, rfl⟩ := List.mem_map.1 hx
  obtain ⟨i, hi, rfl⟩ := List.mem_iff_getElem.1 (List.mem_filter.1 he).1
  have := h i hi
  rwa [getElem!_pos es i hi] at this
/-- What the program asks of an event. -/
structure StepI (es : List GEvent) (ni : Int) (i : Nat) : Prop where
  part : evPart ni es[i]! = true
  note : 0 ≤ es[i]!.Note ∧ es[i]!.Note < (es.length / 2 : Nat)
  ord : 0 < i → lt4 (keyM es es[i - 1]!) (keyM es es[i]!) = true
  sp : isSp es[i]! = true → ∃ a, ownA es es[i]!.Note = some a ∧ a ≤ es[i]!.At ∧ ∀ j, j < i → isSp es[j]! = true → es[j]!.Note ≠ es[i]!.Note
theorem key_same (st1 : ∀ i j, i < es.length → j < es.length → isSt es[i]! = true → isSt es[j]! = true → es[i]!.Note = es[j]!.Note → i = j) {e : GEvent} (h : isSp e = true → ∃ a, ownA es e.Note = some a) : keyM es e = keyOf es e := by
  unfold keyM keyOf lateM
  cases hp : isSp e with
  | false => rfl
  | true =>
    obtain ⟨a, ha⟩ := h hp
    obtain ⟨j, h1, h2, h3, h4⟩ := own_some ha
    have hsa := start_of h1 h2 fun i hi hs hn => st1 i j hi h1 hs h2 hn
    rw [ha, ← h3, hsa, h4]
theorem EvGood.own (G : EvGood es ni) {i : Nat} (hi : i < es.length) (hp : isSp es[i]! = true) : ∃ a, ownA es es[i]!.Note = some a ∧ a ≤ es[i]!.At := by
  obtain ⟨j, h1, h2, h3, h4⟩ := G.pair i hi hp
  obtain ⟨a, ha⟩ := own_of h1 h2
  rw [h3] at ha
  obtain ⟨j', k1, k2, k3, k4⟩ := own_some ha
  obtain rfl := G.st1 j' j k1 h1 k2 h2 (by rw [k3, h3])
  exact ⟨a, ha, by rw [← k4]; exact h4⟩
theorem EvGood.stepI (G : EvGood es ni) {i : Nat} (hi : i < es.length) : StepI es ni i := by
  have hk : ∀ j, j < es.length → keyM es es[j]! = keyOf es es[j]! := fun j hj => key_same G.st1 fun hp => by
    obtain ⟨a, ha, _⟩ := G.own hj hp
    exact ⟨a, ha⟩
  refine ⟨G.part i hi, G.note i hi, fun h0 => ?_, fun hp => ?_⟩
  · rw [hk _ (by omega), hk _ hi]
    have := G.ord (i - 1) (by omega)
    rwa [show i - 1 + 1 = i by omega] at this
  · obtain ⟨a, ha, h2⟩ := G.own hi hp
    exact ⟨a, ha, h2, fun j hj hs hn => by have := G.sp1 j i (by omega) hi hs hp hn; omega⟩
theorem ownM_succ {i : Nat} (hi : i < es.length) : ownM (es.take (i + 1)) = if isSt es[i]! then mset (ownM (es.take i)) es[i]!.Note (.int .i64 es[i]!.At) else ownM (es.take i) := by
  unfold ownM pairsOf
  rw [List.take_succ_eq_append_getElem hi, List.filter_append, List.map_append, getElem!_pos es i hi]
  by_cases h : isSt es[i] = true
  · rw [if_pos h, List.filter_cons_of_pos h]
    exact putAll_snoc _ _
  · rw [if_neg h, List.filter_cons_of_neg h]
    simp
end
end Go.Sx
