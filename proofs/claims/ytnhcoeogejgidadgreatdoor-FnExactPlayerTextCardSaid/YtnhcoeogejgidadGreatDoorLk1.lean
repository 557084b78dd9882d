/- Rings and filters in the program: what the functions compute. -/
import Derived.Test.YtnhcoeogejgidadGreatDoorTabE
import Derived.Test.YtnhcoeogejgidadGreatDoorLp5
import Derived.Test.YtnhcoeogejgidadGreatDoorK1
set_option linter.unusedVariables false
set_option linter.unusedSimpArgs false
namespace Go.Sx
open Go.Proofs
set_option maxRecDepth 100000

theorem maxLen_lt : (maxLen : Nat) < 9223372036854775808 := by decide
theorem ring_ok {r : GRing} {l : Nat} (hl : r.Samples.length = l) : r.ok = (inR (l : Int) 1 1024 && inR r.At 0 ((l : Int) - 1)) := by simp [GRing.ok, GRing.len, hl]
theorem l02Ring_c {h : Heap} {q : Addr} {r : GRing} (R : RdP rRing h q r) : CALL prg f_spec_l02Ring #[.pointer (some q)] (fun u h' => u = .bool r.ok ∧ Ext h h') h := by
  refine spec_l02Ring.call (R.oL1 fun b l c S => ?_)
  have hm := S.2.1
  have hm2 := S.2.2.1
  have := maxLen_lt
  rw [wrap64 (n := (l : Int) - 1) (by omega) (by omega)]
  refine (l00In_c _ _ _).go fun h1 x1 => as_b (br (fun hb => ?_) fun hb => ⟨by rw [ring_ok S.len, hb]; rfl, x1⟩)
  refine (R.ext x1).oI ?_
  exact (l00In_c _ _ _).go fun h2 x2 => as_b ⟨by rw [ring_ok S.len, hb]; rfl, x1.trans x2⟩
theorem ValidRing_c {h : Heap} {cs : Array Value} {r : GRing} (R : rRing.rd h cs.toList r) : CALL prg f_impl_ValidRing #[.agg cs] (fun u h' => u = .bool r.ok ∧ Ext h h') h := by
  refine impl_ValidRing.call (alcR R fun g h1 x1 R1 => R1.oL2 fun b l c S => ?_)
  have hm := S.2.1
  have hm2 := S.2.2.1
  have := maxLen_lt
  refine (length_f32_c _ _ _).go fun h2 x2 => as_i ((within_c _ _ _).go fun h3 x3 => as_b ?_)
  have R3 := R1.ext (x2.trans x3)
  refine br (fun hb => ?_) fun hb => ⟨by rw [ring_ok S.len, hb]; rfl, (x1.trans x2).trans x3⟩
  refine R3.oI2 (R3.oL2 fun b' l' c' S' => ?_)
  have hm3 := S'.2.1
  have hm4 := S'.2.2.1
  refine (length_f32_c _ _ _).go fun h4 x4 => as_i ?_
  refine (R3.foc0 foc_Ring_At).pin rfl x4 ?_
  rw [wrap64 (n := (l' : Int) - 1) (by omega) (by omega)]
  refine (within_c _ _ _).go fun h5 x5 => as_b ⟨?_, (((x1.trans x2).trans x3).trans x4).trans x5⟩
  rw [ring_ok S.len, hb, show l' = l by rw [← S.len, ← S'.len]]; rfl
theorem l04All_c {h : Heap} {b : Option Addr} {l c : Nat} {xs : List Nat} (S : SlR (rF .f32) h b l c xs) : CALL prg f_spec_l04All #[.slice b l c] (fun u h' => u = .bool (allFin xs) ∧ Ext h h') h := by
  refine spec_l04All.call ?_
  have hm2 := S.2.2.1
  have hm3 := S.2.1
  have := maxLen_lt
  have hl := S.len
  refine loop (fun x hh => ∃ n : Nat, x = (b, l, c, (n : Int)) ∧ n ≤ l ∧ Ext h hh ∧ ∀ i, i < n → fin xs[i]! = true) (fun x => (l - x.2.2.2).toNat) ⟨0, rfl, by omega, Ext.refl _, fun i hi => by omega⟩ ?_
  rintro x hh ⟨n, rfl, hn, X, hf⟩
  refine brd (fun hc => ?_) fun hc => ?_
  · refine (S.ext X).idx (by decide) (by omega) (by omega) fun a Ra => Ra.oF1 fun y hy => ?_
    refine (l01Finite_c hy).go fun h1 x1 => as_b (br (fun hb => ?_) fun hb => ?_)
    · refine ⟨?_, X.trans x1⟩
      rw [allFin, all_range, all_false (i := n) (by omega) (by simpa using hb)]
    · refine ⟨⟨n + 1, by rw [wrap64_succ (by omega)], by omega, X.trans x1, fun i hi => ?_⟩, by rw [wrap64_succ (by omega)]; show _ < _; simp; omega⟩
      by_cases e : i = n
      · subst e; simpa using hb
      · exact hf i (by omega)
  · refine ⟨?_, X⟩
    rw [allFin, all_range, all_true fun i hi => hf i (by omega)]
/-- Where the first element is of which p holds; -1: nowhere. -/
def firstAt {α : Type} (p : α → Bool) (l : List α) : Int := if l.any p then (l.findIdx p : Nat) else -1
theorem firstAt_none {α : Type} [Inhabited α] {p : α → Bool} {l : List α} (h : ∀ i, i < l.length → p l[i]! = false) : firstAt p l = -1 := by
  unfold firstAt
  rw [if_neg]
  rw [Bool.not_eq_true, List.any_eq_false]
  intro x hx
  obtain ⟨i, hi, rfl⟩ := List.mem_iff_getElem.1 hx
  have := h i hi
  rw [getElem!_pos l i hi] at this
  rw [this]; decide
theorem firstAt_some {α : Type} [Inhabited α] {p : α → Bool} {l : List α} {n : Nat} (hn : n < l.length) (h : ∀ i, i < n → p l[i]! = false) (hp : p l[n]! = true) : firstAt p l = n := by
  unfold firstAt
  rw [getElem!_pos l n hn] at hp
  rw [if_pos (List.any_eq_true.2 ⟨_, List.getElem_mem hn, hp⟩)]
  congr 1
  rw [List.findIdx_eq hn]
  refine ⟨hp, fun j hj => ?_⟩
  have := h j hj
  rw [getElem!_pos l j (by omega)] at this
  simpa using this
theorem firstAt_any {α : Type} (p : α → Bool) (l : List α) : decide (0 ≤ firstAt p l) = l.any p := by
  unfold firstAt
  split
  · next h => rw [h]; exact decide_eq_true (by omega)
  · next h => rw [Bool.not_eq_true] at h; rw [h]; rfl
/-- A function value that tells of each float whether p holds. -/
def Tells (P : Program) (f : Value) (p : Nat → Bool) : Prop := ∀ x a h, FW .f32 x a → CALLD P f #[.float .f32 x] (fun u h' => u = .bool (p a) ∧ Ext h h') h
theorem CALLD.mono {P : Program} {f : Value} {args : Array Value} {K K' : Value → Heap → Prop} {h : Heap} (hk : ∀ v h, K v h → K' v h) (H : CALLD P f args K h) : CALLD P f args K' h := by
  unfold CALLD at H ⊢
  split at H
  · exact CALL.mono hk H
  · exact SEMN.mono hk H
theorem IndexFunc_f32_c {h : Heap} {b : Option Addr} {l c : Nat} {xs : List Nat} {f : Value} {p : Nat → Bool} (S : SlR (rF .f32) h b l c xs) (T : Tells prg f p) :
    CALL prg f_slices_IndexFunc_sl_float32_float32 #[.slice b l c, f] (fun u h' => u = .int .i64 (firstAt p xs) ∧ Ext h h') h := by
  refine slices_IndexFunc_sl_float32_float32.call ?_
  have hm2 := S.2.2.1
  have hm3 := S.2.1
  have := maxLen_lt
  have hl := S.len
  refine loop (fun x hh => ∃ n : Nat, x = (b, l, c, f, (l : Int), (n : Int)) ∧ n ≤ l ∧ Ext h hh ∧ ∀ i, i < n → p xs[i]! = false) (fun x => (l - x.2.2.2.2.2).toNat) ⟨0, rfl, by omega, Ext.refl _, fun i hi => by omega⟩ ?_
  rintro x hh ⟨n, rfl, hn, X, hf⟩
  refine brd (fun hc => ?_) fun hc => ?_
  · refine (S.ext X).idx (by decide) (by omega) (by omega) fun a Ra => Ra.oF1 fun y hy => ?_
    refine (T _ _ _ hy).mono fun u h1 ⟨e, x1⟩ => ?_
    subst e
    refine as_b (br (fun hb => ?_) fun hb => ?_)
    · exact ⟨by rw [firstAt_some (by omega) hf (by simpa using hb)], X.trans x1⟩
    · refine ⟨⟨n + 1, by rw [wrap64_succ (by omega)], by omega, X.trans x1, fun i hi => ?_⟩, by rw [wrap64_succ (by omega)]; show _ < _; simp; omega⟩
      by_cases e : i = n
      · subst e; simpa using hb
      · exact hf i (by omega)
  · exact ⟨by rw [firstAt_none fun i hi => hf i (by omega)], X⟩
theorem ContainsFunc_f32_c {h : Heap} {b : Option Addr} {l c : Nat} {xs : List Nat} {f : Value} {p : Nat → Bool} (S : SlR (rF .f32) h b l c xs) (T : Tells prg f p) :
    CALL prg f_slices_ContainsFunc_sl_float32_float32 #[.slice b l c, f] (fun u h' => u = .bool (xs.any p) ∧ Ext h h') h := by
  refine slices_ContainsFunc_sl_float32_float32.call ((IndexFunc_f32_c S T).mono fun u h1 ⟨e, x1⟩ => ?_)
  subst e
  exact as_i ⟨by rw [firstAt_any], x1⟩
theorem areFinite_tells : Tells prg (.func (.func f_impl_areFinite_c1) #[] #[]) fun a => !fin a := fun x a h hx => by
  show CALL prg f_impl_areFinite_c1 #[.float .f32 x] _ h
  exact impl_areFinite_c1.call ((isFinite_c hx).go fun h1 x1 => as_b ⟨rfl, x1⟩)
theorem any_not {α : Type} (p : α → Bool) (l : List α) : (!l.any fun a => !p a) = l.all p := by
  induction l with
  | nil => rfl
  | cons a l ih => simp only [List.any_cons, List.all_cons, Bool.not_or, Bool.not_not]; rw [ih]
theorem areFinite_c {h : Heap} {b : Option Addr} {l c : Nat} {xs : List Nat} (S : SlR (rF .f32) h b l c xs) : CALL prg f_impl_areFinite #[.slice b l c] (fun u h' => u = .bool (allFin xs) ∧ Ext h h') h := by
  refine impl_areFinite.call ((ContainsFunc_f32_c S areFinite_tells).mono fun u h1 ⟨e, x1⟩ => ?_)
  subst e
  exact as_b ⟨by rw [any_not]; rfl, x1⟩
theorem isRing_c {h : Heap} {cs : Array Value} {r : GRing} (R : rRing.rd h cs.toList r) : CALL prg f_impl_isRing #[.agg cs] (fun u h' => u = .bool r.okf ∧ Ext h h') h := by
  refine impl_isRing.call (alcR R fun g h1 x1 R1 => R1.lda1 rfl fun cs' Rc => ?_)
  refine (ValidRing_c Rc).mono fun u h2 ⟨e, x2⟩ => ?_
  subst e
  refine as_b (br (fun hb => ?_) fun hb => ⟨by rw [GRing.okf, hb]; rfl, x1.trans x2⟩)
  refine (R1.ext x2).oL2 fun b l c S => (areFinite_c S).mono fun u h3 ⟨e, x3⟩ => ?_
  subst e
  exact as_b ⟨by rw [GRing.okf, hb]; rfl, (x1.trans x2).trans x3⟩
theorem ring_sz : 0 < rRing.sz := by decide
theorem l04Rings_c {h : Heap} {b : Option Addr} {l c : Nat} {rs : List GRing} (S : SlR rRing h b l c rs) : CALL prg f_spec_l04Rings #[.slice b l c] (fun u h' => u = .bool (rs.all GRing.okf) ∧ Ext h h') h := by
  refine spec_l04Rings.call ?_
  have hm2 := S.2.2.1
  have hm3 := S.2.1
  have := maxLen_lt
  have hl := S.len
  refine loop (fun x hh => ∃ n : Nat, x = (b, l, c, (n : Int)) ∧ n ≤ l ∧ Ext h hh ∧ ∀ i, i < n → rs[i]!.okf = true) (fun x => (l - x.2.2.2).toNat) ⟨0, rfl, by omega, Ext.refl _, fun i hi => by omega⟩ ?_
  rintro x hh ⟨n, rfl, hn, X, hf⟩
  refine brd (fun hc => ?_) fun hc => ?_
  · refine (S.ext X).idx ring_sz (by omega) (by omega) fun a Ra => ?_
    refine (l02Ring_c Ra).mono fun u h1 ⟨e, x1⟩ => ?_
    subst e
    have X1 := X.trans x1
    refine as_b (br (fun hb => ?_) fun hb => ?_)
    · refine ⟨?_, X1⟩
      rw [all_range, all_false (i := n) (by omega)]
      show (rs[n]!.ok && _) = false
      rw [show rs[n]!.ok = false by simpa using hb]; rfl
    refine (S.ext X1).idx ring_sz (by omega) (by omega) fun a Ra => Ra.oL1 fun b' l' c' S' => ?_
    refine (l04All_c S').mono fun u h2 ⟨e, x2⟩ => ?_
    subst e
    refine as_b (br (fun hb2 => ?_) fun hb2 => ?_)
    · refine ⟨?_, X1.trans x2⟩
      rw [all_range, all_false (i := n) (by omega)]
      show (rs[n]!.ok && allFin rs[n]!.Samples) = false
      rw [show allFin rs[n]!.Samples = false by simpa using hb2, Bool.and_false]
    · refine ⟨⟨n + 1, by rw [wrap64_succ (by omega)], by omega, X1.trans x2, fun i hi => ?_⟩, by rw [wrap64_succ (by omega)]; show _ < _; simp; omega⟩
      by_cases e : i = n
      · subst e
        show (rs[i]!.ok && allFin rs[i]!.Samples) = true
        rw [show rs[i]!.ok = true by simpa using hb, show allFin rs[i]!.Samples = true by simpa using hb2]; rfl
      · exact hf i (by omega)
  · refine ⟨?_, X⟩
    rw [all_range, all_true fun i hi => hf i (by omega)]
end Go.Sx
/- Rings copied and moved on; filters: what the functions compute. -/
set_option linter.unusedVariables false
set_option linter.unusedSimpArgs false
namespace Go.Sx
open Go.Proofs
set_option maxRecDepth 100000

theorem at_lt {r : GRing} (h : r.ok = true) : 0 ≤ r.At ∧ r.At.toNat < r.Samples.length ∧ 1 ≤ r.Samples.length ∧ r.Samples.length ≤ 1024 ∧ r.At < r.Samples.length := by
  unfold GRing.ok inR GRing.len at h
  simp only [Bool.and_eq_true, decide_eq_true_eq] at h
  obtain ⟨⟨h1, h2⟩, h3, h4⟩ := h
  refine ⟨h3, ?_, ?_, ?_, ?_⟩ <;> omega
end Go.Sx
/- Filters: what the functions compute. -/
set_option linter.unusedVariables false
set_option linter.unusedSimpArgs false
namespace Go.Sx
open Go.Proofs
set_option maxRecDepth 100000

theorem l02Uses_c (k : Int) : Ret prg f_spec_l02Uses #[.int .i64 k] (.tuple ⟨[.int .i64 (usesC k), .int .i64 (usesS k)]⟩) := fun h => by
  refine spec_l02Uses.call ?_
  unfold spec_l02Uses.S
  repeat' refine br (fun _ => ?_) (fun _ => ?_)
  all_goals (refine ⟨?_, Ext.refl _⟩; simp_all [usesC, usesS])
def usesI (k : Int) : Int := if inR k 1 5 then usesC k else 0
def usesJ (k : Int) : Int := if inR k 1 5 then usesS k else 0
theorem uses_c (k : Int) : Ret prg f_impl_uses #[.int .i64 k] (.tuple ⟨[.int .i64 (usesI k), .int .i64 (usesJ k)]⟩) := fun h => by
  refine impl_uses.call ?_
  unfold impl_uses.S
  repeat' refine br (fun _ => ?_) (fun _ => ?_)
  all_goals (refine ⟨?_, Ext.refl _⟩; simp_all [usesI, usesJ, usesC, usesS, inR])
  all_goals omega
def usedAt (l : List Nat) (n : Int) (i : Nat) : Bool := fin l[i]! && (decide ((i : Int) < n) || l[i]! == 0)
theorem isUsed_c {h : Heap} {b : Option Addr} {l c : Nat} {xs : List Nat} (S : SlR (rF .f32) h b l c xs) (n : Int) : CALL prg f_impl_isUsed #[.slice b l c, .int .i64 n] (fun u h' => u = .bool (used xs n) ∧ Ext h h') h := by
  refine impl_isUsed.call ?_
  have hm2 := S.2.2.1
  have hm3 := S.2.1
  have := maxLen_lt
  have hl := S.len
  refine loop (fun x hh => ∃ m : Nat, x = (n, b, l, c, (l : Int), (m : Int)) ∧ m ≤ l ∧ Ext h hh ∧ ∀ i, i < m → usedAt xs n i = true) (fun x => (l - x.2.2.2.2.2).toNat) ⟨0, rfl, by omega, Ext.refl _, fun i hi => by omega⟩ ?_
  rintro x hh ⟨m, rfl, hn, X, hf⟩
  refine brd (fun hc => ?_) fun hc => ?_
  · refine (S.ext X).idx (by decide) (by omega) (by omega) fun a Ra => Ra.oF1 fun y hy => ?_
    have no : ∀ {h'}, Ext h h' → usedAt xs n m = false → ((Value.bool false = .bool (used xs n)) ∧ Ext h h') := fun x e => ⟨by rw [show used xs n = false from all_false (i := m) (by omega) e], x⟩
    have go : ∀ {h'}, Ext h h' → usedAt xs n m = true → (∃ m_1 : Nat, ((n, b, l, c, (l : Int), IntKind.i64.wrap ((m : Int) + 1)) : Int × Option Addr × Nat × Nat × Int × Int) = (n, b, l, c, (l : Int), (m_1 : Int)) ∧ m_1 ≤ l ∧ Ext h h' ∧ ∀ i, i < m_1 → usedAt xs n i = true) ∧ ((l : Int) - IntKind.i64.wrap ((m : Int) + 1)).toNat < ((l : Int) - (m : Int)).toNat := by
      intro h' x e
      rw [wrap64_succ (by omega)]
      refine ⟨⟨m + 1, rfl, by omega, x, fun i hi => ?_⟩, by omega⟩
      by_cases e' : i = m
      · subst e'; exact e
      · exact hf i (by omega)
    refine (isFinite_c hy).go fun h1 x1 => as_b (br (fun hb => no (X.trans x1) ?_) fun hb => ?_)
    · rw [usedAt, show fin xs[m]! = false by simpa using hb]; rfl
    have hb : fin xs[m]! = true := by simpa using hb
    refine brd (fun h2 => ?_) fun h2 => go (X.trans x1) ?_
    · refine (bitsOf_c hy).go fun h3 x3 => as_i (br (fun hb3 => no ((X.trans x1).trans x3) ?_) fun hb3 => go ((X.trans x1).trans x3) ?_)
      · rw [usedAt, hb, decide_eq_false (by omega), Bool.true_and, Bool.false_or]
        have hb3 : (xs[m]! : Int) ≠ 0 := by simpa using hb3
        exact beq_false_of_ne (by omega)
      · rw [usedAt, hb, decide_eq_false (by omega), Bool.true_and, Bool.false_or]
        have hb3 : (xs[m]! : Int) = 0 := by simpa using hb3
        exact beq_iff_eq.2 (by omega)
    · rw [usedAt, hb, decide_eq_true (by omega)]; rfl
  · refine ⟨?_, X⟩
    rw [show used xs n = true from all_true fun i hi => hf i (by omega)]
theorem usesI_pos (k : Int) : decide (0 < usesI k) = inR k 1 5 := by
  unfold usesI
  split
  · next h => rw [h]; apply decide_eq_true; unfold usesC; split <;> (try split) <;> omega
  · next h => rw [Bool.not_eq_true] at h; rw [h]; rfl
theorem ValidFilter_c {h : Heap} {cs : Array Value} {f : GFilter} (R : rFilter.rd h cs.toList f) : CALL prg f_impl_ValidFilter #[.agg cs] (fun u h' => u = .bool f.ok ∧ Ext h h') h := by
  refine impl_ValidFilter.call (alcR R fun g h1 x1 R1 => R1.oI2 ((uses_c _).go fun h2 x2 => tup2 (as_i (as_i ?_))))
  rw [usesI_pos]
  have X2 := x1.trans x2
  have R2 := R1.ext x2
  refine br (fun hb => ?_) fun hb => ⟨by rw [GFilter.ok, hb]; rfl, X2⟩
  have e1 : usesI f.Kind = usesC f.Kind := by rw [usesI, if_pos hb]
  have e2 : usesJ f.Kind = usesS f.Kind := by rw [usesJ, if_pos hb]
  rw [e1, e2]
  refine slb (by omega) (by omega) (by omega) ?_
  rw [slP_zero]
  refine (isUsed_c ((R2.foc0 foc_Filter_C).arr (by decide)) _).mono ?_
  rintro _ h3 ⟨rfl, x3⟩
  refine as_b (br (fun hc => ?_) fun hc => ⟨by rw [GFilter.ok, hb, hc]; rfl, X2.trans x3⟩)
  refine slb (by omega) (by omega) (by omega) ?_
  rw [slP_zero]
  refine (isUsed_c (((R2.ext x3).foc0 foc_Filter_S).arr (by decide)) _).mono ?_
  rintro _ h4 ⟨rfl, x4⟩
  exact as_b ⟨by rw [GFilter.ok, hb, hc]; rfl, (X2.trans x3).trans x4⟩
theorem isFilter_c {h : Heap} {cs : Array Value} {f : GFilter} (R : rFilter.rd h cs.toList f) (k : Int) : CALL prg f_impl_isFilter #[.agg cs, .int .i64 k] (fun u h' => u = .bool (f.ok && f.Kind == k) ∧ Ext h h') h := by
  refine impl_isFilter.call (alcR R fun g h1 x1 R1 => R1.lda1 rfl fun cs' Rc => (ValidFilter_c Rc).mono ?_)
  rintro _ h2 ⟨rfl, x2⟩
  refine as_b (br (fun hb => (R1.ext x2).oI2 ⟨by rw [hb]; rfl, x1.trans x2⟩) fun hb => ⟨by rw [hb]; rfl, x1.trans x2⟩)
theorem l02Ok_c {h : Heap} {q : Addr} {f : GFilter} (R : RdP rFilter h q f) : CALL prg f_spec_l02Ok #[.pointer (some q)] (fun u h' => u = .bool f.ok ∧ Ext h h') h := by
  have hC := (R.foc foc_Filter_C).len
  have hS := (R.foc foc_Filter_S).len
  refine spec_l02Ok.call (R.oI1 ((l00In_c _ _ _).go fun h1 x1 => as_b (br (fun hb => ⟨by rw [GFilter.ok, show inR f.Kind 1 5 = false by simpa using hb]; rfl, x1⟩) fun hb => ?_)))
  have hb : inR f.Kind 1 5 = true := by simpa using hb
  refine (R.ext x1).oI1 ((l02Uses_c _).go fun h2 x2 => tup2 (as_i (as_i ?_)))
  have X2 := x1.trans x2
  refine loop (fun x hh => ∃ m : Nat, x = (q, usesC f.Kind, usesS f.Kind, (m : Int)) ∧ m ≤ 3 ∧ Ext h hh ∧ ∀ i, i < m → usedAt f.C (usesC f.Kind) i = true) (fun x => (3 - x.2.2.2).toNat) ⟨0, rfl, by omega, X2, fun i hi => by omega⟩ ?_
  rintro x hh ⟨m, rfl, hn, X, hf⟩
  refine brd (fun hc => ?_) fun hc => ?_
  · refine idx (by omega) (by omega) ?_
    have Ra := ((R.ext X).foc foc_Filter_C).elem (i := m) (by omega)
    refine Ra.oF1 fun y hy => ?_
    have no : ∀ {h'}, Ext h h' → usedAt f.C (usesC f.Kind) m = false → ((Value.bool false = .bool f.ok) ∧ Ext h h') := fun x e => ⟨by rw [GFilter.ok, hb, show used f.C _ = false from all_false (i := m) (by omega) e]; rfl, x⟩
    have go : ∀ {h'}, Ext h h' → usedAt f.C (usesC f.Kind) m = true → (∃ m_1 : Nat, ((q, usesC f.Kind, usesS f.Kind, IntKind.i64.wrap ((m : Int) + 1)) : Addr × Int × Int × Int) = (q, usesC f.Kind, usesS f.Kind, (m_1 : Int)) ∧ m_1 ≤ 3 ∧ Ext h h' ∧ ∀ i, i < m_1 → usedAt f.C (usesC f.Kind) i = true) ∧ ((3 : Int) - IntKind.i64.wrap ((m : Int) + 1)).toNat < ((3 : Int) - (m : Int)).toNat := by
      intro h' x e
      rw [wrap64_succ (by omega)]
      refine ⟨⟨m + 1, rfl, by omega, x, fun i hi => ?_⟩, by omega⟩
      by_cases e' : i = m
      · subst e'; exact e
      · exact hf i (by omega)
    refine (l01Finite_c hy).go fun h1 x1 => as_b (br (fun hb => no (X.trans x1) ?_) fun hb => ?_)
    · rw [usedAt, show fin f.C[m]! = false by simpa using hb]; rfl
    have hb : fin f.C[m]! = true := by simpa using hb
    refine brd (fun h2 => ?_) fun h2 => go (X.trans x1) ?_
    · refine idx (by omega) (by omega) ((Ra.ext x1).oF1 fun y hy => (l01Same_c hy fw0).go fun h3 x3 => as_b (br (fun hb3 => no ((X.trans x1).trans x3) ?_) fun hb3 => go ((X.trans x1).trans x3) ?_))
      · rw [usedAt, hb, decide_eq_false (by omega), Bool.true_and, Bool.false_or]
        simpa using hb3
      · rw [usedAt, hb, decide_eq_false (by omega), Bool.true_and, Bool.false_or]
        simpa using hb3
    · rw [usedAt, hb, decide_eq_true (by omega)]; rfl
  have hCu : used f.C (usesC f.Kind) = true := all_true fun i hi => hf i (by omega)
  refine loop (fun x hh => ∃ m : Nat, x = (q, usesS f.Kind, (m : Int)) ∧ m ≤ 2 ∧ Ext h hh ∧ ∀ i, i < m → usedAt f.S (usesS f.Kind) i = true) (fun x => (2 - x.2.2).toNat) ⟨0, rfl, by omega, X, fun i hi => by omega⟩ ?_
  rintro x hh ⟨m, rfl, hn, X, hf⟩
  refine brd (fun hc => ?_) fun hc => ?_
  · refine idx (by omega) (by omega) ?_
    have Ra := ((R.ext X).foc foc_Filter_S).elem (i := m) (by omega)
    refine Ra.oF1 fun y hy => ?_
    have no : ∀ {h'}, Ext h h' → usedAt f.S (usesS f.Kind) m = false → ((Value.bool false = .bool f.ok) ∧ Ext h h') := fun x e => ⟨by rw [GFilter.ok, hb, show used f.S _ = false from all_false (i := m) (by omega) e, Bool.and_false], x⟩
    have go : ∀ {h'}, Ext h h' → usedAt f.S (usesS f.Kind) m = true → (∃ m_1 : Nat, ((q, usesS f.Kind, IntKind.i64.wrap ((m : Int) + 1)) : Addr × Int × Int) = (q, usesS f.Kind, (m_1 : Int)) ∧ m_1 ≤ 2 ∧ Ext h h' ∧ ∀ i, i < m_1 → usedAt f.S (usesS f.Kind) i = true) ∧ ((2 : Int) - IntKind.i64.wrap ((m : Int) + 1)).toNat < ((2 : Int) - (m : Int)).toNat := by
      intro h' x e
      rw [wrap64_succ (by omega)]
      refine ⟨⟨m + 1, rfl, by omega, x, fun i hi => ?_⟩, by omega⟩
      by_cases e' : i = m
      · subst e'; exact e
      · exact hf i (by omega)
    refine (l01Finite_c hy).go fun h1 x1 => as_b (br (fun hb => no (X.trans x1) ?_) fun hb => ?_)
    · rw [usedAt, show fin f.S[m]! = false by simpa using hb]; rfl
    have hb : fin f.S[m]! = true := by simpa using hb
    refine brd (fun h2 => ?_) fun h2 => go (X.trans x1) ?_
    · refine idx (by omega) (by omega) ((Ra.ext x1).oF1 fun y hy => (l01Same_c hy fw0).go fun h3 x3 => as_b (br (fun hb3 => no ((X.trans x1).trans x3) ?_) fun hb3 => go ((X.trans x1).trans x3) ?_))
      · rw [usedAt, hb, decide_eq_false (by omega), Bool.true_and, Bool.false_or]
        simpa using hb3
      · rw [usedAt, hb, decide_eq_false (by omega), Bool.true_and, Bool.false_or]
        simpa using hb3
    · rw [usedAt, hb, decide_eq_true (by omega)]; rfl
  · refine ⟨?_, X⟩
    rw [GFilter.ok, hb, hCu, show used f.S _ = true from all_true fun i hi => hf i (by omega)]; rfl
end Go.Sx
/- Filters moved on; blocks made by a function of their places. -/
set_option linter.unusedVariables false
set_option linter.unusedSimpArgs false
namespace Go.Sx
open Go.Proofs
set_option maxRecDepth 100000

/-- What a step of a filter leaves. -/
def FStep (h0 h' : Heap) (q : Addr) (F : Fr) (L : List Blk) (f : GFilter) (a : Nat) (u : Value) : Prop := (∃ y, u = .float .f32 y ∧ FW .f32 y (f.step a).2) ∧ Pt rFilter h0 h' q F L (f.step a).1
section
variable {h0 h : Heap} {q : Addr} {F : Fr} {L : List Blk} {f : GFilter} {x a : Nat}
theorem FStep.of {f' : GFilter} {b y : Nat} (e : f.step a = (f', b)) (hy : FW .f32 y b) (P : Pt rFilter h0 h q F L f') : FStep h0 h q F L f a (.float .f32 y) := by
  unfold FStep
  rw [e]
  exact ⟨⟨y, rfl, hy⟩, P⟩
set_option maxHeartbeats 2000000 in
end
end Go.Sx
/- A slice that lies in own data taken out with its blocks, and put back changed. -/
set_option linter.unusedVariables false
set_option linter.unusedSimpArgs false
namespace Go.Sx
section
variable {α β : Type} {r : Rep α} {h0 h : Heap} {q : Addr} {F : Fr} {L : List Blk} {a : α} {off e : Nat} {s : Rep β} {get : α → List β} {put : α → List β → α}
/-- A slice whose header's cell is known. -/
theorem Pt.slr {l c : Nat} {b : Option Addr} (P : Pt r h0 h q F L a) [Fc : FocC r off (rSl e s) get put] (hb : cell h (q.add off) = some (.slice b l c)) : SlR s h b l c (get a) := by
  obtain ⟨v, e1, b', l', c', e2, S⟩ := P.rd.cell Fc.f rfl
  obtain rfl : v = .slice b' l' c' := by simpa using e2
  rw [hb] at e1
  cases e1
  exact S
end
end Go.Sx
/- What several structs' contracts have in common: slices of floats made, pairs answered, lists changed place by place. -/
set_option linter.unusedVariables false
set_option linter.unusedSimpArgs false
namespace Go.Sx
open Go.Proofs
set_option maxRecDepth 100000

section
variable {h : Heap} {q : Addr}
theorem take_snoc {α : Type} [Inhabited α] {l : List α} {n : Nat} (h : n < l.length) : l.take (n + 1) = l.take n ++ [l[n]!] := by
  rw [List.take_succ_eq_append_getElem h, getElem!_pos l n h]
theorem zeros_fl (n : Nat) : ows (rF .f32) [] (List.replicate n (.float .f32 0)) (List.replicate n 0) := by
  induction n with
  | zero => exact ⟨rfl, rfl⟩
  | succ n ih => exact ⟨[], [], [.float .f32 0], List.replicate n (.float .f32 0), rfl, rfl, ⟨rfl, 0, rfl, fw0⟩, ih⟩
/-- A slice of zeros, made. -/
theorem make_floats {h0 : Heap} {L : List Blk} {n : Nat} {F : Nat → Heap → Prop} (M : Mem h0 h L) (hn : n ≤ 1048576)
    (H : ∀ g h', Ext h h' → Mem h0 h' ((g, T_float32, ⟨List.replicate n (.float .f32 0)⟩) :: L) → SlO T_float32 (rF .f32) [(g, T_float32, ⟨List.replicate n (.float .f32 0)⟩)] (some ⟨g, 0, none⟩) n n (List.replicate n 0) → F g h') : MKS ti_float32 T_float32 (n : Int) (n : Int) F h := by
  refine mks1 M rfl rfl (by show 4 * n ≤ 2 ^ 48; omega) (by omega) fun g h' x' M' => H g h' x' M' ?_
  have : n ≤ maxLen := by
    have : (1048576 : Nat) ≤ maxLen := by decide
    omega
  exact ⟨by simp, List.replicate n (.float .f32 0), [_], [], rfl, ⟨by rw [List.length_replicate, show (rF .f32).sz = 1 from rfl, Nat.mul_one], .inr ⟨g, _, rfl, rfl, Nat.le_refl _, this, by rw [List.size_toArray, List.length_replicate, show (rF .f32).sz = 1 from rfl, Nat.mul_one], by
    rw [List.take_of_length_le]
    show (List.replicate n (Value.float .f32 0)).length ≤ n * 1
    simp⟩⟩, zeros_fl n⟩
end
/-- A pair of a value and a code, told by a call. -/
def PairR {α : Type} (r : Rep α) (h h' : Heap) (u : Value) (a : α) (code : Int) : Prop := ∃ cs B, u = .tuple ⟨[.agg cs, .int .i64 code]⟩ ∧ r.ow B cs.toList a ∧ Mem h h' B
/-- Pointers. -/
def rP : Rep Addr := rOne (fun a => .pointer (some a)) fun _ => rfl
theorem RdP.oP1 {h : Heap} {q a : Addr} {K : Addr → Prop} (R : RdP rP h q a) (H : K a) : Sx.oP (Sx.cell h q) K := by
  obtain ⟨vs, h1, e⟩ := R
  have := h1 0 (.pointer (some a)) (by rw [show vs = [.pointer (some a)] from e]; rfl)
  rw [add0] at this
  rw [this]; exact H
theorem is2 {α : Type} {l : List α} (h : l.length = 2) : ∃ a b, l = [a, b] := by
  match l, h with
  | [a, b], _ => exact ⟨a, b, rfl⟩
/-- A list of which the first n elements have been made anew. -/
def mapI {α : Type} [Inhabited α] (f : Nat → α) (l : List α) (n : Nat) : List α := (List.range l.length).map fun i => if i < n then f i else l[i]!
section
variable {α : Type} [Inhabited α] {f : Nat → α} {l : List α} {n i : Nat}
theorem mapI_all (h : l.length ≤ n) : mapI f l n = (List.range l.length).map f := by
  unfold mapI
  refine List.map_congr_left fun i hi => ?_
  rw [if_pos (by have := List.mem_range.1 hi; omega)]
end
theorem mem_get {α : Type} [Inhabited α] {l : List α} {i : Nat} (h : i < l.length) : l[i]! ∈ l := by rw [getElem!_pos l i h]; exact List.getElem_mem h
end Go.Sx
