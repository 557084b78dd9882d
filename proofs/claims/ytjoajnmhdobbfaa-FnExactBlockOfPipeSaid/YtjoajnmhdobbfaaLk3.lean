/- Filters: what the functions compute. -/
import Derived.Test.YtjoajnmhdobbfaaLk2
set_option linter.unusedVariables false
set_option linter.unusedSimpArgs false
namespace Go.Sx
open Go.Proofs
set_option maxRecDepth 100000

theorem l02Uses_c (k : Int) : Ret prg f_spec_l02Uses #[.int .i64 k] (.tuple ⟨[.int .i64 (usesC k), .int .i64 (usesS k)]⟩) := fun h => by
  refine spec_l02Uses.call ?_
  unfold spec_l02Uses.S
  repeat' refine br (fun _ => ?_) (fun _ => ?_)
  all_goals (refine ⟨?_, Ext.refl _⟩; simp_all [usesC, usesS])
def usesI (k : Int) : Int := if inR k 1 5 then usesC k else 0
def usesJ (k : Int) : Int := if inR k 1 5 then usesS k else 0
theorem uses_c (k : Int) : Ret prg f_impl_uses #[.int .i64 k] (.tuple ⟨[.int .i64 (usesI k), .int .i64 (usesJ k)]⟩) := fun h => by
  refine impl_uses.call ?_
  unfold impl_uses.S
  repeat' refine br (fun _ => ?_) (fun _ => ?_)
  all_goals (refine ⟨?_, Ext.refl _⟩; simp_all [usesI, usesJ, usesC, usesS, inR])
  all_goals omega
def usedAt (l : List Nat) (n : Int) (i : Nat) : Bool := fin l[i]! && (decide ((i : Int) < n) || l[i]! == 0)
theorem isUsed_c {h : Heap} {b : Option Addr} {l c : Nat} {xs : List Nat} (S : SlR (rF .f32) h b l c xs) (n : Int) : CALL prg f_impl_isUsed #[.slice b l c, .int .i64 n] (fun u h' => u = .bool (used xs n) ∧ Ext h h') h := by
  refine impl_isUsed.call ?_
  have hm2 := S.2.2.1
  have hm3 := S.2.1
  have := maxLen_lt
  have hl := S.len
  refine loop (fun x hh => ∃ m : Nat, x = (n, b, l, c, (l : Int), (m : Int)) ∧ m ≤ l ∧ Ext h hh ∧ ∀ i, i < m → usedAt xs n i = true) (fun x => (l - x.2.2.2.2.2).toNat) ⟨0, rfl, by omega, Ext.refl _, fun i hi => by omega⟩ ?_
  rintro x hh ⟨m, rfl, hn, X, hf⟩
  refine brd (fun hc => ?_) fun hc => ?_
  · refine (S.ext X).idx (by decide) (by omega) (by omega) fun a Ra => Ra.oF1 fun y hy => ?_
    have no : ∀ {h'}, Ext h h' → usedAt xs n m = false → ((Value.bool false = .bool (used xs n)) ∧ Ext h h') := fun x e => ⟨by rw [show used xs n = false from all_false (i := m) (by omega) e], x⟩
    have go : ∀ {h'}, Ext h h' → usedAt xs n m = true → (∃ m_1 : Nat, ((n, b, l, c, (l : Int), IntKind.i64.wrap ((m : Int) + 1)) : Int × Option Addr × Nat × Nat × Int × Int) = (n, b, l, c, (l : Int), (m_1 : Int)) ∧ m_1 ≤ l ∧ Ext h h' ∧ ∀ i, i < m_1 → usedAt xs n i = true) ∧ ((l : Int) - IntKind.i64.wrap ((m : Int) + 1)).toNat < ((l : Int) - (m : Int)).toNat := by
      intro h' x e
      rw [wrap64_succ (by omega)]
      refine ⟨⟨m + 1, rfl, by omega, x, fun i hi => ?_⟩, by omega⟩
      by_cases e' : i = m
      · subst e'; exact e
      · exact hf i (by omega)
    refine (isFinite_c hy).go fun h1 x1 => as_b (br (fun hb => no (X.trans x1) ?_) fun hb => ?_)
    · rw [usedAt, show fin xs[m]! = false by simpa using hb]; rfl
    have hb : fin xs[m]! = true := by simpa using hb
    refine brd (fun h2 => ?_) fun h2 => go (X.trans x1) ?_
    · refine (bitsOf_c hy).go fun h3 x3 => as_i (br (fun hb3 => no ((X.trans x1).trans x3) ?_) fun hb3 => go ((X.trans x1).trans x3) ?_)
      · rw [usedAt, hb, decide_eq_false (by omega), Bool.true_and, Bool.false_or]
        have hb3 : (xs[m]! : Int) ≠ 0 := by simpa using hb3
        exact beq_false_of_ne (by omega)
      · rw [usedAt, hb, decide_eq_false (by omega), Bool.true_and, Bool.false_or]
        have hb3 : (xs[m]! : Int) = 0 := by simpa using hb3
        exact beq_iff_eq.2 (by omega)
    · rw [usedAt, hb, decide_eq_true (by omega)]; rfl
  · refine ⟨?_, X⟩
    rw [show used xs n = true from all_true fun i hi => hf i (by omega)]
theorem usesI_pos (k : Int) : decide (0 < usesI k) = inR k 1 5 := by
  unfold usesI
  split
  · next h => rw [h]; apply decide_eq_true; unfold usesC; split <;> (try split) <;> omega
  · next h => rw [Bool.not_eq_true] at h; rw [h]; rfl
theorem ValidFilter_c {h : Heap} {cs : Array Value} {f : GFilter} (R : rFilter.rd h cs.toList f) : CALL prg f_impl_ValidFilter #[.agg cs] (fun u h' => u = .bool f.ok ∧ Ext h h') h := by
  refine impl_ValidFilter.call (alcR R fun g h1 x1 R1 => R1.oI2 ((uses_c _).go fun h2 x2 => tup2 (as_i (as_i ?_))))
  rw [usesI_pos]
  have X2 := x1.trans x2
  have R2 := R1.ext x2
  refine br (fun hb => ?_) fun hb => ⟨by rw [GFilter.ok, hb]; rfl, X2⟩
  have e1 : usesI f.Kind = usesC f.Kind := by rw [usesI, if_pos hb]
  have e2 : usesJ f.Kind = usesS f.Kind := by rw [usesJ, if_pos hb]
  rw [e1, e2]
  refine slb (by omega) (by omega) (by omega) ?_
  rw [slP_zero]
  refine (isUsed_c ((R2.foc0 foc_Filter_C).arr (by decide)) _).mono ?_
  rintro _ h3 ⟨rfl, x3⟩
  refine as_b (br (fun hc => ?_) fun hc => ⟨by rw [GFilter.ok, hb, hc]; rfl, X2.trans x3⟩)
  refine slb (by omega) (by omega) (by omega) ?_
  rw [slP_zero]
  refine (isUsed_c (((R2.ext x3).foc0 foc_Filter_S).arr (by decide)) _).mono ?_
  rintro _ h4 ⟨rfl, x4⟩
  exact as_b ⟨by rw [GFilter.ok, hb, hc]; rfl, (X2.trans x3).trans x4⟩
theorem isFilter_c {h : Heap} {cs : Array Value} {f : GFilter} (R : rFilter.rd h cs.toList f) (k : Int) : CALL prg f_impl_isFilter #[.agg cs, .int .i64 k] (fun u h' => u = .bool (f.ok && f.Kind == k) ∧ Ext h h') h := by
  refine impl_isFilter.call (alcR R fun g h1 x1 R1 => R1.lda1 rfl fun cs' Rc => (ValidFilter_c Rc).mono ?_)
  rintro _ h2 ⟨rfl, x2⟩
  refine as_b (br (fun hb => (R1.ext x2).oI2 ⟨by rw [hb]; rfl, x1.trans x2⟩) fun hb => ⟨by rw [hb]; rfl, x1.trans x2⟩)
theorem l02Ok_c {h : Heap} {q : Addr} {f : GFilter} (R : RdP rFilter h q f) : CALL prg f_spec_l02Ok #[.pointer (some q)] (fun u h' => u = .bool f.ok ∧ Ext h h') h := by
  have hC := (R.foc foc_Filter_C).len
  have hS := (R.foc foc_Filter_S).len
  refine spec_l02Ok.call (R.oI1 ((l00In_c _ _ _).go fun h1 x1 => as_b (br (fun hb => ⟨by rw [GFilter.ok, show inR f.Kind 1 5 = false by simpa using hb]; rfl, x1⟩) fun hb => ?_)))
  have hb : inR f.Kind 1 5 = true := by simpa using hb
  refine (R.ext x1).oI1 ((l02Uses_c _).go fun h2 x2 => tup2 (as_i (as_i ?_)))
  have X2 := x1.trans x2
  refine loop (fun x hh => ∃ m : Nat, x = (q, usesC f.Kind, usesS f.Kind, (m : Int)) ∧ m ≤ 3 ∧ Ext h hh ∧ ∀ i, i < m → usedAt f.C (usesC f.Kind) i = true) (fun x => (3 - x.2.2.2).toNat) ⟨0, rfl, by omega, X2, fun i hi => by omega⟩ ?_
  rintro x hh ⟨m, rfl, hn, X, hf⟩
  refine brd (fun hc => ?_) fun hc => ?_
  · refine idx (by omega) (by omega) ?_
    have Ra := ((R.ext X).foc foc_Filter_C).elem (i := m) (by omega)
    refine Ra.oF1 fun y hy => ?_
    have no : ∀ {h'}, Ext h h' → usedAt f.C (usesC f.Kind) m = false → ((Value.bool false = .bool f.ok) ∧ Ext h h') := fun x e => ⟨by rw [GFilter.ok, hb, show used f.C _ = false from all_false (i := m) (by omega) e]; rfl, x⟩
    have go : ∀ {h'}, Ext h h' → usedAt f.C (usesC f.Kind) m = true → (∃ m_1 : Nat, ((q, usesC f.Kind, usesS f.Kind, IntKind.i64.wrap ((m : Int) + 1)) : Addr × Int × Int × Int) = (q, usesC f.Kind, usesS f.Kind, (m_1 : Int)) ∧ m_1 ≤ 3 ∧ Ext h h' ∧ ∀ i, i < m_1 → usedAt f.C (usesC f.Kind) i = true) ∧ ((3 : Int) - IntKind.i64.wrap ((m : Int) + 1)).toNat < ((3 : Int) - (m : Int)).toNat := by
      intro h' x e
      rw [wrap64_succ (by omega)]
      refine ⟨⟨m + 1, rfl, by omega, x, fun i hi => ?_⟩, by omega⟩
      by_cases e' : i = m
      · subst e'; exact e
      · exact hf i (by omega)
    refine (l01Finite_c hy).go fun h1 x1 => as_b (br (fun hb => no (X.trans x1) ?_) fun hb => ?_)
    · rw [usedAt, show fin f.C[m]! = false by simpa using hb]; rfl
    have hb : fin f.C[m]! = true := by simpa using hb
    refine brd (fun h2 => ?_) fun h2 => go (X.trans x1) ?_
    · refine idx (by omega) (by omega) ((Ra.ext x1).oF1 fun y hy => (l01Same_c hy fw0).go fun h3 x3 => as_b (br (fun hb3 => no ((X.trans x1).trans x3) ?_) fun hb3 => go ((X.trans x1).trans x3) ?_))
      · rw [usedAt, hb, decide_eq_false (by omega), Bool.true_and, Bool.false_or]
        simpa using hb3
      · rw [usedAt, hb, decide_eq_false (by omega), Bool.true_and, Bool.false_or]
        simpa using hb3
    · rw [usedAt, hb, decide_eq_true (by omega)]; rfl
  have hCu : used f.C (usesC f.Kind) = true := all_true fun i hi => hf i (by omega)
  refine loop (fun x hh => ∃ m : Nat, x = (q, usesS f.Kind, (m : Int)) ∧ m ≤ 2 ∧ Ext h hh ∧ ∀ i, i < m → usedAt f.S (usesS f.Kind) i = true) (fun x => (2 - x.2.2).toNat) ⟨0, rfl, by omega, X, fun i hi => by omega⟩ ?_
  rintro x hh ⟨m, rfl, hn, X, hf⟩
  refine brd (fun hc => ?_) fun hc => ?_
  · refine idx (by omega) (by omega) ?_
    have Ra := ((R.ext X).foc foc_Filter_S).elem (i := m) (by omega)
    refine Ra.oF1 fun y hy => ?_
    have no : ∀ {h'}, Ext h h' → usedAt f.S (usesS f.Kind) m = false → ((Value.bool false = .bool f.ok) ∧ Ext h h') := fun x e => ⟨by rw [GFilter.ok, hb, show used f.S _ = false from all_false (i := m) (by omega) e, Bool.and_false], x⟩
    have go : ∀ {h'}, Ext h h' → usedAt f.S (usesS f.Kind) m = true → (∃ m_1 : Nat, ((q, usesS f.Kind, IntKind.i64.wrap ((m : Int) + 1)) : Addr × Int × Int) = (q, usesS f.Kind, (m_1 : Int)) ∧ m_1 ≤ 2 ∧ Ext h h' ∧ ∀ i, i < m_1 → usedAt f.S (usesS f.Kind) i = true) ∧ ((2 : Int) - IntKind.i64.wrap ((m : Int) + 1)).toNat < ((2 : Int) - (m : Int)).toNat := by
      intro h' x e
      rw [wrap64_succ (by omega)]
      refine ⟨⟨m + 1, rfl, by omega, x, fun i hi => ?_⟩, by omega⟩
      by_cases e' : i = m
      · subst e'; exact e
      · exact hf i (by omega)
    refine (l01Finite_c hy).go fun h1 x1 => as_b (br (fun hb => no (X.trans x1) ?_) fun hb => ?_)
    · rw [usedAt, show fin f.S[m]! = false by simpa using hb]; rfl
    have hb : fin f.S[m]! = true := by simpa using hb
    refine brd (fun h2 => ?_) fun h2 => go (X.trans x1) ?_
    · refine idx (by omega) (by omega) ((Ra.ext x1).oF1 fun y hy => (l01Same_c hy fw0).go fun h3 x3 => as_b (br (fun hb3 => no ((X.trans x1).trans x3) ?_) fun hb3 => go ((X.trans x1).trans x3) ?_))
      · rw [usedAt, hb, decide_eq_false (by omega), Bool.true_and, Bool.false_or]
        simpa using hb3
      · rw [usedAt, hb, decide_eq_false (by omega), Bool.true_and, Bool.false_or]
        simpa using hb3
    · rw [usedAt, hb, decide_eq_true (by omega)]; rfl
  · refine ⟨?_, X⟩
    rw [GFilter.ok, hb, hCu, show used f.S _ = true from all_true fun i hi => hf i (by omega)]; rfl
end Go.Sx
