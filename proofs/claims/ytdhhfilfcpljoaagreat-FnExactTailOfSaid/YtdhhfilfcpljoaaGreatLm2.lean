/- Rooms that run: what a step asks for, and that it leaves it so; lists changed place by place. -/
import Derived.Test.YtdhhfilfcpljoaaGreatLkC
set_option linter.unusedVariables false
set_option linter.unusedSimpArgs false
namespace Go.Sx
open Go.Proofs
/-- A list of which the first n elements have been made anew. -/
def mapI {α : Type} [Inhabited α] (f : Nat → α) (l : List α) (n : Nat) : List α := (List.range l.length).map fun i => if i < n then f i else l[i]!
section
variable {α : Type} [Inhabited α] {f : Nat → α} {l : List α} {n i : Nat}
theorem mapI_len : (mapI f l n).length = l.length := by simp [mapI]
theorem mapI_get? (hi : i < l.length) : (mapI f l n)[i]? = some (if i < n then f i else l[i]!) := by
  unfold mapI
  rw [List.getElem?_map, List.getElem?_range hi]; rfl
theorem mapI_get (hi : i < l.length) : (mapI f l n)[i]! = if i < n then f i else l[i]! := by
  rw [List.getElem!_eq_getElem?_getD, mapI_get? hi]; rfl
theorem mapI_ge (hi : i < l.length) (h : n ≤ i) : (mapI f l n)[i]! = l[i]! := by rw [mapI_get hi, if_neg (by omega)]
theorem mapI_lt (hi : i < l.length) (h : i < n) : (mapI f l n)[i]! = f i := by rw [mapI_get hi, if_pos h]
theorem mapI_zero : mapI f l 0 = l := by
  apply List.ext_getElem?
  intro i
  by_cases hi : i < l.length
  · rw [mapI_get? hi, if_neg (by omega), getElem!_pos l i hi, List.getElem?_eq_getElem hi]
  · rw [List.getElem?_eq_none (by rw [mapI_len]; omega), List.getElem?_eq_none (by omega)]
theorem mapI_all (h : l.length ≤ n) : mapI f l n = (List.range l.length).map f := by
  unfold mapI
  refine List.map_congr_left fun i hi => ?_
  rw [if_pos (by have := List.mem_range.1 hi; omega)]
theorem mapI_set (hn : n < l.length) : (mapI f l n).set n (f n) = mapI f l (n + 1) := by
  apply List.ext_getElem?
  intro i
  by_cases hi : i < l.length
  · rw [mapI_get? hi, List.getElem?_set]
    by_cases e : n = i
    · subst e
      rw [if_pos rfl, if_pos (by rw [mapI_len]; exact hn), if_pos (by omega)]
    · rw [if_neg e, mapI_get? hi]
      congr 1
      by_cases h : i < n
      · rw [if_pos h, if_pos (by omega)]
      · rw [if_neg h, if_neg (by omega)]
  · rw [List.getElem?_eq_none (by rw [List.length_set, mapI_len]; omega), List.getElem?_eq_none (by rw [mapI_len]; omega)]
end
theorem push_ok {r : GRing} {a : Nat} (h : r.ok = true) : (r.push a).ok = true ∧ (r.push a).len = r.len := by
  have k := at_lt h
  have e : (r.push a).len = r.len := by simp [GRing.push, GRing.len]
  refine ⟨?_, e⟩
  have hl : r.len = r.Samples.length := rfl
  have h1 : (r.push a).At = (r.At + 1) % r.len := rfl
  have h2 := Int.emod_nonneg (r.At + 1) (show r.len ≠ 0 by omega)
  have h3 := Int.emod_lt_of_pos (r.At + 1) (show 0 < r.len by omega)
  unfold GRing.ok inR
  rw [e, h1]
  simp only [Bool.and_eq_true, decide_eq_true_eq]
  omega
/-- What a step of a room asks for. -/
structure GRoom.Runs (x : GRoom) : Prop where
  e : x.Early.ok = true
  t : ∀ t ∈ x.Taps, inR t.Back 1 x.Early.len = true
  c : ∀ c ∈ x.Combs, c.Ring.ok = true
  l : ∀ r ∈ x.Loops, r.ok = true
  c2 : x.Combs.length = 2
  l4 : x.Loops.length = 4
  d4 : x.Damps.length = 4
  g4 : x.Gains.length = 4
theorem ok_runs {x : GRoom} (h : x.ok = true) (c2 : x.Combs.length = 2) (l4 : x.Loops.length = 4) (d4 : x.Damps.length = 4) (g4 : x.Gains.length = 4) : x.Runs := by
  rw [room_ok] at h
  simp only [Bool.and_eq_true, decide_eq_true_eq, List.all_eq_true] at h
  obtain ⟨⟨⟨⟨⟨⟨⟨⟨h1, h2⟩, h3⟩, h4⟩, h5⟩, h6⟩, h7⟩, h8⟩, h9⟩ := h
  have k : ∀ r : GRing, r.okf = true → r.ok = true := fun r hr => by
    unfold GRing.okf at hr
    rw [Bool.and_eq_true] at hr
    exact hr.1
  refine ⟨k _ h1, fun t ht => ?_, fun c hc => ?_, fun r hr => k _ (h4 r hr), c2, l4, d4, g4⟩
  · have := h6 t ht
    unfold GTap.ok at this
    rw [Bool.and_eq_true] at this
    exact this.1
  · have := h3 c hc
    unfold GComb.ok at this
    rw [Bool.and_eq_true] at this
    exact k _ this.1
theorem mem_get {α : Type} [Inhabited α] {l : List α} {i : Nat} (h : i < l.length) : l[i]! ∈ l := by rw [getElem!_pos l i h]; exact List.getElem_mem h
theorem step_runs {x : GRoom} (R : x.Runs) (a : Nat) : (x.step a).1.Runs := by
  obtain ⟨re, rt, rc, rl, c2, l4, d4, g4⟩ := R
  have hp := push_ok (a := kept a) re
  refine ⟨hp.1, fun t ht => ?_, fun c hc => ?_, fun r hr => ?_, rfl, by simp [GRoom.step], by simp [GRoom.step], g4⟩
  · show inR t.Back 1 (x.Early.push (kept a)).len = true
    rw [hp.2]; exact rt t ht
  · have e : (x.step a).1.Combs = [(x.Combs[0]!.step (fadd .f32 a x.early)).1, (x.Combs[1]!.step (x.Combs[0]!.step (fadd .f32 a x.early)).2).1] := rfl
    rw [e] at hc
    have k : ∀ c : GComb, c.Ring.ok = true → ∀ b, (c.step b).1.Ring.ok = true := fun c hc b => (push_ok hc).1
    simp only [List.mem_cons, List.not_mem_nil, or_false] at hc
    rcases hc with rfl | rfl
    · exact k _ (rc _ (mem_get (by omega))) _
    · exact k _ (rc _ (mem_get (by omega))) _
  · unfold GRoom.step at hr
    simp only [List.mem_map, List.mem_range] at hr
    obtain ⟨i, hi, rfl⟩ := hr
    exact (push_ok (rl _ (mem_get (by omega)))).1
theorem play_runs {x : GRoom} (R : x.Runs) : ∀ l : List Nat, (x.play l).1.Runs
  | [] => R
  | a :: l => by
    induction l generalizing x a with
    | nil => exact step_runs R a
    | cons b l ih => exact ih (step_runs R a) b
theorem play_append (x : GRoom) (l : List Nat) (a : Nat) : x.play (l ++ [a]) = (((x.play l).1.step a).1, (x.play l).2 ++ [((x.play l).1.step a).2]) := by
  induction l generalizing x with
  | nil => rfl
  | cons b l ih => rw [List.cons_append]; simp only [GRoom.play]; rw [ih]; rfl
/-- Sizes do not change. -/
theorem step_small {x : GRoom} (hs : x.small) (c2 : x.Combs.length = 2) (l4 : x.Loops.length = 4) (a : Nat) : (x.step a).1.small := by
  have k : ∀ (r : GRing) b, (r.push b).Samples.length = r.Samples.length := fun r b => by simp [GRing.push]
  refine ⟨by show (x.Early.push _).Samples.length ≤ _; rw [k]; exact hs.1, hs.2.1, fun c hc => ?_, fun r hr => ?_⟩
  · have e : (x.step a).1.Combs = [(x.Combs[0]!.step (fadd .f32 a x.early)).1, (x.Combs[1]!.step (x.Combs[0]!.step (fadd .f32 a x.early)).2).1] := rfl
    rw [e] at hc
    simp only [List.mem_cons, List.not_mem_nil, or_false] at hc
    rcases hc with rfl | rfl
    · show (GRing.push _ _).Samples.length ≤ _; rw [k]; exact hs.2.2.1 _ (mem_get (by omega))
    · show (GRing.push _ _).Samples.length ≤ _; rw [k]; exact hs.2.2.1 _ (mem_get (by omega))
  · unfold GRoom.step at hr
    simp only [List.mem_map, List.mem_range] at hr
    obtain ⟨i, hi, rfl⟩ := hr
    rw [k]; exact hs.2.2.2 _ (mem_get (by omega))
end Go.Sx
