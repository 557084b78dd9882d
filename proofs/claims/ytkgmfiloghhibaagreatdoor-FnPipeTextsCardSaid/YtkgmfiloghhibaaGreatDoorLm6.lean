/- Events of notes, plainly: which lists of events are good; that two ways of asking it agree. -/
import Derived.Test.YtkgmfiloghhibaaGreatDoorTabE
import Derived.Test.YtkgmfiloghhibaaGreatDoorK2
import Derived.Test.YtkgmfiloghhibaaGreatDoorLp2
set_option linter.unusedVariables false
set_option linter.unusedSimpArgs false
namespace Go.Sx

/-- Lists of numbers ordered by their first difference. -/
def lt4 : List Int → List Int → Bool
  | a :: els, b :: bs => if a = b then lt4 els bs else decide (a < b)
  | _, _ => false
theorem lt4_cons {a b : Int} {els bs : List Int} : lt4 (a :: els) (b :: bs) = true ↔ a < b ∨ a = b ∧ lt4 els bs = true := by
  rw [lt4]
  split
  · next e =>
    subst e
    constructor
    · exact fun h => .inr ⟨rfl, h⟩
    · rintro (h | h)
      · omega
      · exact h.2
  · next e =>
    rw [decide_eq_true_iff]
    constructor
    · exact .inl
    · rintro (h | h)
      · exact h
      · exact absurd h.1 e
theorem lt4_irrefl : ∀ l : List Int, lt4 l l = false
  | [] => rfl
  | a :: l => by rw [lt4, if_pos rfl]; exact lt4_irrefl l
theorem lt4_trans : ∀ {a b c : List Int}, lt4 a b = true → lt4 b c = true → lt4 a c = true
  | [], _, _, h, _ => by cases h
  | _ :: _, [], _, h, _ => by simp [lt4] at h
  | _ :: _, _ :: _, [], _, h => by simp [lt4] at h
  | x :: a, y :: b, z :: c, h1, h2 => by
    rw [lt4_cons] at *
    rcases h1 with h1 | ⟨rfl, h1⟩ <;> rcases h2 with h2 | ⟨rfl, h2⟩
    · exact .inl (by omega)
    · exact .inl h1
    · exact .inl h2
    · exact .inr ⟨rfl, lt4_trans h1 h2⟩
def isSt (e : GEvent) : Bool := e.Kind == 2
def isSp (e : GEvent) : Bool := e.Kind == 1
def evPart (ni : Int) (e : GEvent) : Bool :=
  inR e.At 0 100000 && (if e.Kind = 1 then e.Instrument == 0 && e.Key == 0 && e.Force == 0 else e.Kind == 2 && inR e.Instrument 0 (ni - 1) && inR e.Key (-100) 100 && fin e.Force)
def startEv (es : List GEvent) (note : Int) : Option GEvent := es.find? fun e => isSt e && e.Note == note
/-- The time at which a note starts, or -1. -/
def startAt (es : List GEvent) (note : Int) : Int := match startEv es note with | some e => e.At | none => -1
def keyL (late : Bool) (e : GEvent) : List Int := [e.At, if late then 0 else 1, e.Note, if e.Kind = 1 then 1 else 0]
def keyOf (es : List GEvent) (e : GEvent) : List Int := keyL (isSp e && decide (startAt es e.Note < e.At)) e
structure EvGood (es : List GEvent) (ni : Int) : Prop where
  even : es.length = 2 * (es.length / 2)
  most : es.length / 2 ≤ 64
  part : ∀ i, i < es.length → evPart ni es[i]! = true
  note : ∀ i, i < es.length → 0 ≤ es[i]!.Note ∧ es[i]!.Note < (es.length / 2 : Nat)
  st1 : ∀ i j, i < es.length → j < es.length → isSt es[i]! = true → isSt es[j]! = true → es[i]!.Note = es[j]!.Note → i = j
  sp1 : ∀ i j, i < es.length → j < es.length → isSp es[i]! = true → isSp es[j]! = true → es[i]!.Note = es[j]!.Note → i = j
  pair : ∀ i, i < es.length → isSp es[i]! = true → ∃ j, j < es.length ∧ isSt es[j]! = true ∧ es[j]!.Note = es[i]!.Note ∧ es[j]!.At ≤ es[i]!.At
  ord : ∀ i, i + 1 < es.length → lt4 (keyOf es es[i]!) (keyOf es es[i + 1]!) = true
noncomputable def evOk (es : List GEvent) (ni : Int) : Bool := @decide (EvGood es ni) (Classical.propDecidable _)
theorem evOk_iff {es : List GEvent} {ni : Int} : evOk es ni = true ↔ EvGood es ni := by unfold evOk; exact @decide_eq_true_iff _ (Classical.propDecidable _)
section
variable {es : List GEvent} {ni : Int}
theorem chain (f : Nat → List Int) {n : Nat} (h : ∀ i, i + 1 < n → lt4 (f i) (f (i + 1)) = true) : ∀ {i j}, i < j → j < n → lt4 (f i) (f j) = true := by
  intro i j hij hj
  induction j with
  | zero => omega
  | succ j ih =>
    by_cases e : i = j
    · subst e; exact h i hj
    · exact lt4_trans (ih (by omega) (by omega)) (h j hj)
theorem kind_of {e : GEvent} (h : evPart ni e = true) : isSp e = true ∧ isSt e = false ∨ isSt e = true ∧ isSp e = false := by
  unfold evPart at h
  unfold isSp isSt
  rw [Bool.and_eq_true] at h
  by_cases hk : e.Kind = 1
  · rw [hk]; exact .inl ⟨rfl, rfl⟩
  · rw [if_neg hk] at h
    simp only [Bool.and_eq_true] at h
    have : e.Kind = 2 := by have := h.2.1.1.1; simpa using this
    rw [this]; exact .inr ⟨rfl, rfl⟩
/-- A start that is the only one of its note is the one that is found. -/
theorem start_of {j : Nat} (hj : j < es.length) (hs : isSt es[j]! = true) (h1 : ∀ i, i < es.length → isSt es[i]! = true → es[i]!.Note = es[j]!.Note → i = j) : startAt es es[j]!.Note = es[j]!.At := by
  unfold startAt startEv
  cases hf : es.find? fun e => isSt e && e.Note == es[j]!.Note with
  | none =>
    have := List.find?_eq_none.1 hf es[j]! (by rw [getElem!_pos es j hj]; exact List.getElem_mem hj)
    exact absurd (by rw [hs]; simp) this
  | some e =>
    have hm := List.mem_of_find?_eq_some hf
    have hp := List.find?_some hf
    obtain ⟨i, hi, rfl⟩ := List.mem_iff_getElem.1 hm
    simp only [Bool.and_eq_true, beq_iff_eq] at hp
    have := h1 i hi (by rw [getElem!_pos es i hi]; exact hp.1) (by rw [getElem!_pos es i hi]; exact hp.2)
    subst this
    show es[i].At = es[i]!.At
    rw [getElem!_pos es i hi]
theorem EvGood.before (G : EvGood es ni) {i j : Nat} (hi : i < es.length) (hj : j < es.length) (hs : isSt es[j]! = true) (hp : isSp es[i]! = true) (hn : es[j]!.Note = es[i]!.Note) : j < i := by
  obtain ⟨j', h1, h2, h3, h4⟩ := G.pair i hi hp
  obtain rfl : j' = j := G.st1 j' j h1 hj h2 hs (by rw [h3, hn])
  have hsa := start_of hj hs (fun i hi h e => G.st1 i j' hi hj h hs e)
  by_cases hlt : j' < i
  · exact hlt
  · exfalso
    have hsp : isSp es[j']! = false := by
      rcases kind_of (G.part j' hj) with h | h
      · rw [h.2] at hs; cases hs
      · exact h.2
    have hne : i ≠ j' := fun e => by subst e; rw [hp] at hsp; cases hsp
    have h5 := chain (fun k => keyOf es es[k]!) G.ord (i := i) (j := j') (by omega) hj
    have h6 : lt4 (keyOf es es[j']!) (keyOf es es[i]!) = true := by
      unfold keyOf keyL
      rw [hsp, hp, ← hn, hsa]
      have k1 : es[i]!.Kind = 1 := by unfold isSp at hp; simpa using hp
      have k2 : ¬ es[j']!.Kind = 1 := by unfold isSp at hsp; simpa using hsp
      rw [if_neg k2, if_pos k1]
      simp only [Bool.false_and, Bool.true_and]
      rw [lt4_cons]
      rcases Int.lt_or_eq_of_le h4 with h | h
      · exact .inl h
      · refine .inr ⟨h, ?_⟩
        rw [decide_eq_false (p := es[j']!.At < es[i]!.At) (by omega)]
        rw [lt4_cons]
        refine .inr ⟨rfl, ?_⟩
        rw [lt4_cons]
        refine .inr ⟨rfl, ?_⟩
        rw [lt4_cons]
        exact .inl (by decide)
    have := lt4_trans h5 h6
    rw [lt4_irrefl] at this
    cases this
/-- How many of the first i events are starts, or stops, of a note. -/
def cntB (p : GEvent → Bool) (es : List GEvent) (i : Nat) (note : Int) : Nat := (es.take i).countP fun e => p e && e.Note == note
theorem cntB_pos {p : GEvent → Bool} {i : Nat} (hi : i ≤ es.length) {note : Int} : 0 < cntB p es i note ↔ ∃ j, j < i ∧ p es[j]! = true ∧ es[j]!.Note = note := by
  unfold cntB
  rw [List.countP_pos_iff]
  constructor
  · rintro ⟨e, hm, hp⟩
    obtain ⟨j, hj, rfl⟩ := List.mem_iff_getElem.1 hm
    rw [List.length_take] at hj
    simp only [Bool.and_eq_true, beq_iff_eq, List.getElem_take] at hp
    exact ⟨j, by omega, by rw [getElem!_pos es j (by omega)]; exact hp.1, by rw [getElem!_pos es j (by omega)]; exact hp.2⟩
  · rintro ⟨j, hj, h1, h2⟩
    rw [getElem!_pos es j (by omega)] at h1 h2
    refine ⟨es[j]'(by omega), List.mem_iff_getElem.2 ⟨j, by rw [List.length_take]; omega, by rw [List.getElem_take]⟩, ?_⟩
    simp [h1, h2]
/-- What the rule asks of an event, the counts of those before it known. -/
structure StepS (es : List GEvent) (ni : Int) (i : Nat) : Prop where
  part : evPart ni es[i]! = true
  note : 0 ≤ es[i]!.Note ∧ es[i]!.Note < (es.length / 2 : Nat)
  st : isSt es[i]! = true → cntB isSp es i es[i]!.Note = 0 ∧ cntB isSt es i es[i]!.Note = 0
  sp : isSp es[i]! = true → 0 < cntB isSt es i es[i]!.Note ∧ cntB isSp es i es[i]!.Note = 0
theorem EvGood.stepS (G : EvGood es ni) {i : Nat} (hi : i < es.length) : StepS es ni i := by
  have z : ∀ {n : Nat}, ¬ 0 < n → n = 0 := fun h => by omega
  refine ⟨G.part i hi, G.note i hi, fun hs => ⟨?_, ?_⟩, fun hp => ⟨?_, ?_⟩⟩
  · refine z fun h => ?_
    obtain ⟨j, h1, h2, h3⟩ := (cntB_pos (by omega)).1 h
    have := G.before (i := j) (j := i) (by omega) hi hs h2 h3.symm
    omega
  · refine z fun h => ?_
    obtain ⟨j, h1, h2, h3⟩ := (cntB_pos (by omega)).1 h
    have := G.st1 j i (by omega) hi h2 hs h3
    omega
  · obtain ⟨j, h1, h2, h3, _⟩ := G.pair i hi hp
    exact (cntB_pos (by omega)).2 ⟨j, G.before hi h1 h2 hp h3, h2, h3⟩
  · refine z fun h => ?_
    obtain ⟨j, h1, h2, h3⟩ := (cntB_pos (by omega)).1 h
    have := G.sp1 j i (by omega) hi h2 hp h3
    omega
/-- The time of the last start of a note. -/
def ownA (es : List GEvent) (n : Int) : Option Int := ((es.filter isSt).reverse.find? fun e => e.Note == n).map (·.At)
theorem own_some {n a : Int} (h : ownA es n = some a) : ∃ j, j < es.length ∧ isSt es[j]! = true ∧ es[j]!.Note = n ∧ es[j]!.At = a := by
  unfold ownA at h
  cases hf : (es.filter isSt).reverse.find? fun e => e.Note == n with
  | none => rw [hf] at h; cases h
  | some e =>
    rw [hf] at h
    have ha : e.At = a := by simpa using h
    have hm := List.mem_of_find?_eq_some hf
    have hp := List.find?_some hf
    rw [List.mem_reverse, List.mem_filter] at hm
    obtain ⟨j, hj, rfl⟩ := List.mem_iff_getElem.1 hm.1
    have e := getElem!_pos es j hj
    exact ⟨j, hj, by rw [e]; exact hm.2, by rw [e]; simpa using hp, by rw [e]; exact ha⟩
theorem own_of {j : Nat} (hj : j < es.length) (hs : isSt es[j]! = true) : ∃ a, ownA es es[j]!.Note = some a := by
  unfold ownA
  cases hf : (es.filter isSt).reverse.find? fun e => e.Note == es[j]!.Note with
  | none =>
    have := List.find?_eq_none.1 hf es[j]! (by rw [List.mem_reverse, List.mem_filter]; exact ⟨by rw [getElem!_pos es j hj]; exact List.getElem_mem hj, hs⟩)
    simp at this
  | some e => exact ⟨_, rfl⟩
def lateM (es : List GEvent) (e : GEvent) : Bool := isSp e && (match ownA es e.Note with | some a => decide (a < e.At) | none => false)
def keyM (es : List GEvent) (e : GEvent) : List Int := keyL (lateM es e) e
/-- What the program asks of an event. -/
structure StepI (es : List GEvent) (ni : Int) (i : Nat) : Prop where
  part : evPart ni es[i]! = true
  note : 0 ≤ es[i]!.Note ∧ es[i]!.Note < (es.length / 2 : Nat)
  ord : 0 < i → lt4 (keyM es es[i - 1]!) (keyM es es[i]!) = true
  sp : isSp es[i]! = true → ∃ a, ownA es es[i]!.Note = some a ∧ a ≤ es[i]!.At ∧ ∀ j, j < i → isSp es[j]! = true → es[j]!.Note ≠ es[i]!.Note
theorem key_same (st1 : ∀ i j, i < es.length → j < es.length → isSt es[i]! = true → isSt es[j]! = true → es[i]!.Note = es[j]!.Note → i = j) {e : GEvent} (h : isSp e = true → ∃ a, ownA es e.Note = some a) : keyM es e = keyOf es e := by
  unfold keyM keyOf lateM
  cases hp : isSp e with
  | false => rfl
  | true =>
    obtain ⟨a, ha⟩ := h hp
    obtain ⟨j, h1, h2, h3, h4⟩ := own_some ha
    have hsa := start_of h1 h2 fun i hi hs hn => st1 i j hi h1 hs h2 hn
    rw [ha, ← h3, hsa, h4]
theorem EvGood.own (G : EvGood es ni) {i : Nat} (hi : i < es.length) (hp : isSp es[i]! = true) : ∃ a, ownA es es[i]!.Note = some a ∧ a ≤ es[i]!.At := by
  obtain ⟨j, h1, h2, h3, h4⟩ := G.pair i hi hp
  obtain ⟨a, ha⟩ := own_of h1 h2
  rw [h3] at ha
  obtain ⟨j', k1, k2, k3, k4⟩ := own_some ha
  obtain rfl := G.st1 j' j k1 h1 k2 h2 (by rw [k3, h3])
  exact ⟨a, ha, by rw [← k4]; exact h4⟩
theorem EvGood.stepI (G : EvGood es ni) {i : Nat} (hi : i < es.length) : StepI es ni i := by
  have hk : ∀ j, j < es.length → keyM es es[j]! = keyOf es es[j]! := fun j hj => key_same G.st1 fun hp => by
    obtain ⟨a, ha, _⟩ := G.own hj hp
    exact ⟨a, ha⟩
  refine ⟨G.part i hi, G.note i hi, fun h0 => ?_, fun hp => ?_⟩
  · rw [hk _ (by omega), hk _ hi]
    have := G.ord (i - 1) (by omega)
    rwa [show i - 1 + 1 = i by omega] at this
  · obtain ⟨a, ha, h2⟩ := G.own hi hp
    exact ⟨a, ha, h2, fun j hj hs hn => by have := G.sp1 j i (by omega) hi hs hp hn; omega⟩
end
end Go.Sx
/- What strings, bows, voices and players do, plain. -/
set_option linter.unusedVariables false
set_option linter.unusedSimpArgs false
namespace Go.Sx
def GString.step (x : GString) (a : Nat) : GString × Nat :=
  let o := x.Loop.old
  let t := x.Tune.step o
  let d := x.Damp.step t.2
  ({ x with Loop := x.Loop.push (kept (fadd .f32 (fmul .f32 d.2 x.Loss) a)), Tune := t.1, Damp := d.1 }, o)
def GString.silent (x : GString) : Bool := x.Loop.zero && x.Tune.still && x.Damp.still
def friction (s d : Nat) : Nat :=
  let w := fadd .f32 (fabs (fmul .f32 s d)) 1061158912
  let v := fmul .f32 w w
  let f := fdiv .f32 1065353216 (fmul .f32 v v)
  if fgt .f32 f 1065353216 then 1065353216 else f
def GBow.e (x : GBow) : GFilter × Nat := x.Damp.step x.Bridge.old
def GBow.u (x : GBow) : Nat := fneg .f32 (fmul .f32 x.Loss x.e.2)
def GBow.v (x : GBow) : Nat := fneg .f32 x.Neck.old
def GBow.d (x : GBow) (a : Nat) : Nat := fsub .f32 a (fadd .f32 x.u x.v)
def GBow.w (x : GBow) (a : Nat) : Nat := fmul .f32 (x.d a) (friction x.Slope (x.d a))
def GBow.step (x : GBow) (a : Nat) : GBow × Nat :=
  ({ x with Neck := x.Neck.push (kept (fadd .f32 x.u (x.w a))), Bridge := x.Bridge.push (kept (fadd .f32 x.v (x.w a))), Damp := x.e.1 }, x.Bridge.old)
def GBow.silent (x : GBow) : Bool := x.Neck.zero && x.Bridge.zero && x.Damp.still
def GPipe.silent (x : GPipe) : Bool := x.Right.all GRing.zero && x.Left.all GRing.zero && x.End.still
end Go.Sx
/- A 16 bit number as a float32 and back. -/
namespace Go.Sx
open Ieee
set_option linter.unusedVariables false
set_option linter.unusedSimpArgs false

theorem compare_mul {a b q : Int} (hq : 0 < q) : compare (a * q) (b * q) = compare a b := by
  rcases Int.lt_trichotomy a b with h | h | h
  · rw [compare_lt h, compare_lt (Int.mul_lt_mul_of_pos_right h hq)]
  · subst h; simp
  · rw [compare_gt h, compare_gt (Int.mul_lt_mul_of_pos_right h hq)]
theorem signed_add (s : Bool) (m u v : Nat) : signed s m (u + v) = signed s m u * ((2 ^ v : Nat) : Int) := by
  cases s
  · rw [signed_f, signed_f, Nat.pow_add, ← Nat.mul_assoc]; exact Int.natCast_mul _ _
  · rw [signed_t, signed_t, Nat.pow_add, ← Nat.mul_assoc, Int.neg_mul]; exact congrArg Neg.neg (Int.natCast_mul _ _)
/-- Numbers compared over any base that is low enough. -/
theorem order_base (s t : Bool) (m n : Nat) (i j b : Int) (hi : b ≤ i) (hj : b ≤ j) : (Datum.number s m i).order (.number t n j) = some (compare (signed s m (i - b).toNat) (signed t n (j - b).toNat)) := by
  rw [order_number]
  congr 1
  rw [show (i - b).toNat = (i - min i j).toNat + (min i j - b).toNat by omega, show (j - b).toNat = (j - min i j).toNat + (min i j - b).toNat by omega, signed_add, signed_add]
  exact (compare_mul (by exact_mod_cast Nat.two_pow_pos _)).symm
end Go.Sx
/- Floats between powers of two: rounding keeps such bounds. -/
set_option linter.unusedVariables false
set_option linter.unusedSimpArgs false
namespace Go.Sx
open Ieee

/-- m * 2 ^ p is at most 2 ^ j. -/
def VLE (m : Nat) (p j : Int) : Prop := m = 0 ∨ (p ≤ j ∧ m ≤ 2 ^ (j - p).toNat)
/-- m * 2 ^ p is at least 2 ^ i. -/
def VGE (m : Nat) (p i : Int) : Prop := m ≠ 0 ∧ 2 ^ (i - p).toNat ≤ m
theorem cut_bounds (way : Toward) (s : Bool) (n d : Nat) : n / 2 ^ min d (n.log2 + 2) ≤ way.cut s n d ∧ way.cut s n d ≤ n / 2 ^ min d (n.log2 + 2) + 1 ∧ (n % 2 ^ min d (n.log2 + 2) = 0 → way.cut s n d = n / 2 ^ min d (n.log2 + 2)) := by
  unfold Toward.cut
  dsimp only
  rw [Nat.shiftLeft_eq, Nat.one_mul]
  have hp := Nat.two_pow_pos (min d (n.log2 + 2))
  generalize 2 ^ min d (n.log2 + 2) = gap at hp
  refine ⟨Nat.le_add_right _ _, Nat.add_le_add_left (Bool.toNat_le _) _, fun h => ?_⟩
  rw [h]
  have h1 : decide (gap < 2 * 0) = false := by simp
  have h2 : (gap == 2 * 0) = false := by simp; omega
  cases way
  · show n / gap + (decide (gap < 2 * 0) || gap == 2 * 0 && n / gap % 2 == 1).toNat = _
    rw [h1, h2]; rfl
  · cases s <;> rfl
  · cases s <;> rfl
  · rfl
theorem lt_log (n : Nat) : n < 2 ^ (n.log2 + 2) := Nat.lt_of_lt_of_le Nat.lt_log2_self (Nat.pow_le_pow_right (by decide) (by omega))
theorem cut_le (way : Toward) (s : Bool) {n d X : Nat} (h : n ≤ X * 2 ^ d) : way.cut s n d ≤ X := by
  obtain ⟨h1, h2, h3⟩ := cut_bounds way s n d
  rcases Nat.le_total d (n.log2 + 2) with hd | hd
  · rw [Nat.min_eq_left hd] at h1 h2 h3
    have hp := Nat.two_pow_pos d
    generalize 2 ^ d = g at *
    by_cases hr : n % g = 0
    · rw [h3 hr]
      exact Nat.div_le_of_le_mul (by rw [Nat.mul_comm]; exact h)
    · have h4 := Nat.div_add_mod n g
      have h5 : n / g < X := by
        refine Nat.lt_of_mul_lt_mul_left (a := g) ?_
        rw [Nat.mul_comm g X]; omega
      omega
  · rw [Nat.min_eq_right hd] at h1 h2 h3
    have h4 := lt_log n
    rw [Nat.div_eq_of_lt h4] at h1 h2 h3
    rw [Nat.mod_eq_of_lt h4] at h3
    by_cases hn : n = 0
    · rw [h3 hn]; exact Nat.zero_le _
    · have : X ≠ 0 := fun e => by subst e; omega
      omega
theorem cut_ge (way : Toward) (s : Bool) {n d X : Nat} (h : X * 2 ^ d ≤ n) : X ≤ way.cut s n d := by
  obtain ⟨h1, h2, h3⟩ := cut_bounds way s n d
  rcases Nat.le_total d (n.log2 + 2) with hd | hd
  · rw [Nat.min_eq_left hd] at h1
    exact Nat.le_trans ((Nat.le_div_iff_mul_le (Nat.two_pow_pos d)).2 h) h1
  · have h4 := lt_log n
    have h5 : 2 ^ (n.log2 + 2) ≤ 2 ^ d := Nat.pow_le_pow_right (by decide) hd
    have : X = 0 := by
      cases X with
      | zero => rfl
      | succ X => rw [Nat.succ_mul] at h; omega
    omega
/-- A rung read. -/
theorem read_rung0 (f : Format) (s : Bool) {k q : Nat} (hk : k < 2 * f.binade) (h : q = 0 ∨ f.binade ≤ k) (ho : q * f.binade + k < f.infRung) : f.read (f.word s (q * f.binade + k)) = .number s k (f.leastPlace + q) := by
  have hbp : 0 < f.binade := Nat.two_pow_pos _
  have hinf := f.infRung_lt
  have hw : (f.word s (q * f.binade + k)) % f.signWeight = q * f.binade + k := by
    unfold Format.word
    split
    · rw [Nat.add_mod_left, Nat.mod_eq_of_lt (by omega)]
    · rw [Nat.mod_eq_of_lt (by omega)]
  have hn : (f.word s (q * f.binade + k) / f.signWeight % 2 == 1) = s := by
    have hsw : 0 < f.signWeight := Nat.two_pow_pos _
    unfold Format.word
    cases s
    · simp only [Bool.false_eq_true, if_false]
      rw [Nat.div_eq_of_lt (by omega)]; rfl
    · simp only [if_true]
      rw [Nat.add_div_left _ hsw, Nat.div_eq_of_lt (by omega)]; rfl
  unfold Format.read
  dsimp only
  rw [hw, hn]
  by_cases hb : f.binade ≤ k
  · have h7 : k / f.binade = 1 := by rw [Nat.div_eq_iff hbp]; omega
    have h5 : (q * f.binade + k) / f.binade = q + 1 := by
      rw [Nat.mul_comm, Nat.mul_add_div hbp, h7]
    have h6 : (q * f.binade + k) % f.binade = k - f.binade := by
      rw [Nat.mul_comm, Nat.mul_add_mod]
      have := Nat.div_add_mod k f.binade
      rw [h7] at this; omega
    rw [if_neg (by omega), if_pos ho, h5, h6, show f.binade + (k - f.binade) = k by omega]
    congr 1
  · rcases h with h | h
    · subst h
      simp only [Nat.zero_mul, Nat.zero_add] at ho ⊢
      rw [if_pos (by omega)]
      simp
    · omega
theorem read_rung (f : Format) (s : Bool) {k q : Nat} (hk : k ≤ 2 * f.binade) (h : q = 0 ∨ f.binade ≤ k) (ho : q * f.binade + k < f.infRung) :
    ∃ (m' : Nat) (p' : Int), f.read (f.word s (q * f.binade + k)) = .number s m' p' ∧ ((m' = k ∧ p' = f.leastPlace + q ∧ k < 2 * f.binade) ∨ (k = 2 * f.binade ∧ m' = f.binade ∧ p' = f.leastPlace + q + 1)) := by
  have hbp : 0 < f.binade := Nat.two_pow_pos _
  by_cases hc : k = 2 * f.binade
  · subst hc
    have e : q * f.binade + 2 * f.binade = (q + 1) * f.binade + f.binade := by rw [Nat.add_mul]; omega
    rw [e] at ho ⊢
    exact ⟨_, _, read_rung0 f s (by omega) (.inr (Nat.le_refl _)) ho, .inr ⟨rfl, rfl, by push_cast; omega⟩⟩
  · exact ⟨_, _, read_rung0 f s (by omega) h ho, .inl ⟨rfl, rfl, by omega⟩⟩
/-- A number rounded: bounds that are powers of two stay. -/
theorem nearest_read (f : Format) (s : Bool) {m : Nat} {p j : Int} (h0 : m ≠ 0) (hle : VLE m p j) (hj : f.leastPlace + f.fractionBits ≤ j) (ho : ((j - f.fractionBits - f.leastPlace).toNat + 3) * f.binade ≤ f.infRung) :
    ∃ (m' : Nat) (p' : Int), f.read (f.nearest s m p) = .number s m' p' ∧ VLE m' p' j ∧ m' < 2 * f.binade ∧ f.leastPlace ≤ p' ∧ p' ≤ j - f.fractionBits ∧ ∀ i, f.leastPlace + f.fractionBits ≤ i → VGE m p i → VGE m' p' i ∧ f.binade ≤ m' := by
  rcases hle with hle | ⟨hpj, hle⟩
  · exact absurd hle h0
  have a1 : m < 2 ^ (m.log2 + 1) := Nat.lt_log2_self
  have a2 : 2 ^ m.log2 ≤ m := Nat.log2_self_le h0
  have hlj : m.log2 ≤ (j - p).toNat := by
    have h1 : 2 ^ m.log2 ≤ 2 ^ (j - p).toNat := Nat.le_trans a2 hle
    exact (Nat.pow_le_pow_iff_right (by decide)).1 h1
  have hb : f.binade = 2 ^ f.fractionBits := rfl
  unfold Format.nearest
  rw [if_neg h0]
  dsimp only
  have hlast : ∃ last : Int, last = max (p + m.log2 - f.fractionBits) f.leastPlace := ⟨_, rfl⟩
  obtain ⟨last, hl⟩ := hlast
  rw [← hl, Nat.shiftLeft_eq]
  have hlj2 : last ≤ j - f.fractionBits := by omega
  generalize hF : f.fractionBits = F at *
  have powle : ∀ {x y : Nat}, x ≤ y → 2 ^ x ≤ 2 ^ y := fun h => Nat.pow_le_pow_right (by decide) h
  have k1 : Toward.even.cut s (m * 2 ^ (p - last).toNat) (last - p).toNat ≤ 2 * f.binade := by
    refine cut_le _ _ ?_
    rw [hb, show 2 * 2 ^ F = 2 ^ (F + 1) by rw [Nat.pow_succ]; omega, ← Nat.pow_add]
    refine Nat.le_trans (Nat.mul_le_mul_right _ (Nat.le_of_lt a1)) ?_
    rw [← Nat.pow_add]
    exact powle (by omega)
  have k2 : last = f.leastPlace ∨ f.binade ≤ Toward.even.cut s (m * 2 ^ (p - last).toNat) (last - p).toNat := by
    rcases Int.le_total (p + m.log2 - F) f.leastPlace with h3 | h3
    · exact .inl (by omega)
    · refine .inr (cut_ge _ _ ?_)
      rw [hb, ← Nat.pow_add]
      refine Nat.le_trans ?_ (Nat.mul_le_mul_right _ a2)
      rw [← Nat.pow_add]
      exact powle (by omega)
  have k3 : Toward.even.cut s (m * 2 ^ (p - last).toNat) (last - p).toNat ≤ 2 ^ (j - last).toNat := by
    refine cut_le _ _ ?_
    refine Nat.le_trans (Nat.mul_le_mul_right _ hle) ?_
    rw [← Nat.pow_add, ← Nat.pow_add]
    exact powle (by omega)
  have k4 : ∀ i, f.leastPlace + F ≤ i → VGE m p i → 2 ^ (i - last).toNat ≤ Toward.even.cut s (m * 2 ^ (p - last).toNat) (last - p).toNat ∧ f.binade ≤ Toward.even.cut s (m * 2 ^ (p - last).toNat) (last - p).toNat := by
    intro i hi hv
    have hv2 : (i - p).toNat ≤ m.log2 := by
      have h1 : 2 ^ (i - p).toNat < 2 ^ (m.log2 + 1) := Nat.lt_of_le_of_lt hv.2 a1
      have := (Nat.pow_lt_pow_iff_right (by decide : 1 < 2)).1 h1
      omega
    have hB : f.binade ≤ Toward.even.cut s (m * 2 ^ (p - last).toNat) (last - p).toNat := by
      rcases k2 with k2 | k2
      · refine cut_ge _ _ ?_
        rw [hb]
        rcases Int.le_total p i with h4 | h4
        · refine Nat.le_trans ?_ (Nat.mul_le_mul_right _ hv.2)
          rw [← Nat.pow_add, ← Nat.pow_add]
          exact powle (by omega)
        · refine Nat.le_trans ?_ (Nat.mul_le_mul_right _ (show 1 ≤ m by omega))
          rw [Nat.one_mul, ← Nat.pow_add]
          exact powle (by omega)
      · exact k2
    refine ⟨?_, hB⟩
    rcases Int.le_total last i with h3 | h3
    · refine cut_ge _ _ ?_
      rcases Int.le_total p i with h4 | h4
      · refine Nat.le_trans ?_ (Nat.mul_le_mul_right _ hv.2)
        rw [← Nat.pow_add, ← Nat.pow_add]
        exact powle (by omega)
      · refine Nat.le_trans ?_ (Nat.mul_le_mul_right _ (show 1 ≤ m by omega))
        rw [Nat.one_mul, ← Nat.pow_add]
        exact powle (by omega)
    · rw [show (i - last).toNat = 0 by omega, Nat.pow_zero]
      exact Nat.le_trans (Nat.two_pow_pos _) hB
  generalize Toward.even.cut s (m * 2 ^ (p - last).toNat) (last - p).toNat = k at *
  have hq : ((last - f.leastPlace).toNat : Int) = last - f.leastPlace := by omega
  have hbp : 0 < f.binade := Nat.two_pow_pos _
  have hlt : (last - f.leastPlace).toNat * f.binade + k < f.infRung := by
    have h1 : (last - f.leastPlace).toNat * f.binade ≤ (j - F - f.leastPlace).toNat * f.binade := Nat.mul_le_mul_right _ (by omega)
    rw [Nat.add_mul] at ho
    omega
  rw [Nat.min_eq_left (Nat.le_of_lt hlt)]
  obtain ⟨m', p', hr, hc⟩ := read_rung f s k1 (k2.imp (fun h => by omega) id) hlt
  refine ⟨m', p', hr, ?_⟩
  rcases hc with ⟨rfl, rfl, hc⟩ | ⟨rfl, rfl, rfl⟩
  · rw [hq, show f.leastPlace + (last - f.leastPlace) = last by omega]
    exact ⟨.inr ⟨by omega, k3⟩, hc, by omega, by omega, fun i hi hv => ⟨⟨by have := (k4 i hi hv).2; omega, (k4 i hi hv).1⟩, (k4 i hi hv).2⟩⟩
  · rw [hq, show f.leastPlace + (last - f.leastPlace) + 1 = last + 1 by omega]
    have hp2 : 2 * f.binade = 2 ^ (F + 1) := by rw [hb, Nat.pow_succ]; omega
    rw [hp2] at k3
    have h3 : F + 1 ≤ (j - last).toNat := (Nat.pow_le_pow_iff_right (by decide)).1 k3
    refine ⟨.inr ⟨by omega, ?_⟩, by omega, by omega, by omega, fun i hi hv => ⟨⟨by omega, ?_⟩, Nat.le_refl _⟩⟩
    · rw [hb]; exact powle (by omega)
    · have h4 := (k4 i hi hv).1
      rw [hp2] at h4
      have h5 : (i - last).toNat ≤ F + 1 := (Nat.pow_le_pow_iff_right (by decide)).1 h4
      rw [hb]; exact powle (by omega)
end Go.Sx
