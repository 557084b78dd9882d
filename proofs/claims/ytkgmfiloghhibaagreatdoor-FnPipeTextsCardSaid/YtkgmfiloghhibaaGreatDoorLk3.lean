/- Filters: what the functions compute. -/
import Derived.Test.YtkgmfiloghhibaaGreatDoorLk1
import Derived.Test.YtkgmfiloghhibaaGreatDoorLp5
set_option linter.unusedVariables false
set_option linter.unusedSimpArgs false
namespace Go.Sx
open Go.Proofs
set_option maxRecDepth 100000

theorem l02Uses_c (k : Int) : Ret prg f_spec_l02Uses #[.int .i64 k] (.tuple ⟨[.int .i64 (usesC k), .int .i64 (usesS k)]⟩) := fun h => by
  refine spec_l02Uses.call ?_
  unfold spec_l02Uses.S
  repeat' refine br (fun _ => ?_) (fun _ => ?_)
  all_goals (refine ⟨?_, Ext.refl _⟩; simp_all [usesC, usesS])
def usesI (k : Int) : Int := if inR k 1 5 then usesC k else 0
def usesJ (k : Int) : Int := if inR k 1 5 then usesS k else 0
theorem uses_c (k : Int) : Ret prg f_impl_uses #[.int .i64 k] (.tuple ⟨[.int .i64 (usesI k), .int .i64 (usesJ k)]⟩) := fun h => by
  refine impl_uses.call ?_
  unfold impl_uses.S
  repeat' refine br (fun _ => ?_) (fun _ => ?_)
  all_goals (refine ⟨?_, Ext.refl _⟩; simp_all [usesI, usesJ, usesC, usesS, inR])
  all_goals omega
def usedAt (l : List Nat) (n : Int) (i : Nat) : Bool := fin l[i]! && (decide ((i : Int) < n) || l[i]! == 0)
theorem isUsed_c {h : Heap} {b : Option Addr} {l c : Nat} {xs : List Nat} (S : SlR (rF .f32) h b l c xs) (n : Int) : CALL prg f_impl_isUsed #[.slice b l c, .int .i64 n] (fun u h' => u = .bool (used xs n) ∧ Ext h h') h := by
  refine impl_isUsed.call ?_
  have hm2 := S.2.2.1
  have hm3 := S.2.1
  have := maxLen_lt
  have hl := S.len
  refine loop (fun x hh => ∃ m : Nat, x = (n, b, l, c, (l : Int), (m : Int)) ∧ m ≤ l ∧ Ext h hh ∧ ∀ i, i < m → usedAt xs n i = true) (fun x => (l - x.2.2.2.2.2).toNat) ⟨0, rfl, by omega, Ext.refl _, fun i hi => by omega⟩ ?_
  rintro x hh ⟨m, rfl, hn, X, hf⟩
  refine brd (fun hc => ?_) fun hc => ?_
  · refine (S.ext X).idx (by decide) (by omega) (by omega) fun a Ra => Ra.oF1 fun y hy => ?_
    have no : ∀ {h'}, Ext h h' → usedAt xs n m = false → ((Value.bool false = .bool (used xs n)) ∧ Ext h h') := fun x e => ⟨by rw [show used xs n = false from all_false (i := m) (by omega) e], x⟩
    have go : ∀ {h'}, Ext h h' → usedAt xs n m = true → (∃ m_1 : Nat, ((n, b, l, c, (l : Int), IntKind.i64.wrap ((m : Int) + 1)) : Int × Option Addr × Nat × Nat × Int × Int) = (n, b, l, c, (l : Int), (m_1 : Int)) ∧ m_1 ≤ l ∧ Ext h h' ∧ ∀ i, i < m_1 → usedAt xs n i = true) ∧ ((l : Int) - IntKind.i64.wrap ((m : Int) + 1)).toNat < ((l : Int) - (m : Int)).toNat := by
      intro h' x e
      rw [wrap64_succ (by omega)]
      refine ⟨⟨m + 1, rfl, by omega, x, fun i hi => ?_⟩, by omega⟩
      by_cases e' : i = m
      · subst e'; exact e
      · exact hf i (by omega)
    refine (isFinite_c hy).go fun h1 x1 => as_b (br (fun hb => no (X.trans x1) ?_) fun hb => ?_)
    · rw [usedAt, show fin xs[m]! = false by simpa using hb]; rfl
    have hb : fin xs[m]! = true := by simpa using hb
    refine brd (fun h2 => ?_) fun h2 => go (X.trans x1) ?_
    · refine (bitsOf_c hy).go fun h3 x3 => as_i (br (fun hb3 => no ((X.trans x1).trans x3) ?_) fun hb3 => go ((X.trans x1).trans x3) ?_)
      · rw [usedAt, hb, decide_eq_false (by omega), Bool.true_and, Bool.false_or]
        have hb3 : (xs[m]! : Int) ≠ 0 := by simpa using hb3
        exact beq_false_of_ne (by omega)
      · rw [usedAt, hb, decide_eq_false (by omega), Bool.true_and, Bool.false_or]
        have hb3 : (xs[m]! : Int) = 0 := by simpa using hb3
        exact beq_iff_eq.2 (by omega)
    · rw [usedAt, hb, decide_eq_true (by omega)]; rfl
  · refine ⟨?_, X⟩
    rw [show used xs n = true from all_true fun i hi => hf i (by omega)]
theorem usesI_pos (k : Int) : decide (0 < usesI k) = inR k 1 5 := by
  unfold usesI
  split
  · next h => rw [h]; apply decide_eq_true; unfold usesC; split <;> (try split) <;> omega
  · next h => rw [Bool.not_eq_true] at h; rw [h]; rfl
theorem ValidFilter_c {h : Heap} {cs : Array Value} {f : GFilter} (R : rFilter.rd h cs.toList f) : CALL prg f_impl_ValidFilter #[.agg cs] (fun u h' => u = .bool f.ok ∧ Ext h h') h := by
  refine impl_ValidFilter.call (alcR R fun g h1 x1 R1 => R1.oI2 ((uses_c _).go fun h2 x2 => tup2 (as_i (as_i ?_))))
  rw [usesI_pos]
  have X2 := x1.trans x2
  have R2 := R1.ext x2
  refine br (fun hb => ?_) fun hb => ⟨by rw [GFilter.ok, hb]; rfl, X2⟩
  have e1 : usesI f.Kind = usesC f.Kind := by rw [usesI, if_pos hb]
  have e2 : usesJ f.Kind = usesS f.Kind := by rw [usesJ, if_pos hb]
  rw [e1, e2]
  refine slb (by omega) (by omega) (by omega) ?_
  rw [slP_zero]
  refine (isUsed_c ((R2.foc0 foc_Filter_C).arr (by decide)) _).mono ?_
  rintro _ h3 ⟨rfl, x3⟩
  refine as_b (br (fun hc => ?_) fun hc => ⟨by rw [GFilter.ok, hb, hc]; rfl, X2.trans x3⟩)
  refine slb (by omega) (by omega) (by omega) ?_
  rw [slP_zero]
  refine (isUsed_c (((R2.ext x3).foc0 foc_Filter_S).arr (by decide)) _).mono ?_
  rintro _ h4 ⟨rfl, x4⟩
  exact as_b ⟨by rw [GFilter.ok, hb, hc]; rfl, (X2.trans x3).trans x4⟩
theorem isFilter_c {h : Heap} {cs : Array Value} {f : GFilter} (R : rFilter.rd h cs.toList f) (k : Int) : CALL prg f_impl_isFilter #[.agg cs, .int .i64 k] (fun u h' => u = .bool (f.ok && f.Kind == k) ∧ Ext h h') h := by
  refine impl_isFilter.call (alcR R fun g h1 x1 R1 => R1.lda1 rfl fun cs' Rc => (ValidFilter_c Rc).mono ?_)
  rintro _ h2 ⟨rfl, x2⟩
  refine as_b (br (fun hb => (R1.ext x2).oI2 ⟨by rw [hb]; rfl, x1.trans x2⟩) fun hb => ⟨by rw [hb]; rfl, x1.trans x2⟩)
theorem l02Ok_c {h : Heap} {q : Addr} {f : GFilter} (R : RdP rFilter h q f) : CALL prg f_spec_l02Ok #[.pointer (some q)] (fun u h' => u = .bool f.ok ∧ Ext h h') h := by
  have hC := (R.foc foc_Filter_C).len
  have hS := (R.foc foc_Filter_S).len
  refine spec_l02Ok.call (R.oI1 ((l00In_c _ _ _).go fun h1 x1 => as_b (br (fun hb => ⟨by rw [GFilter.ok, show inR f.Kind 1 5 = false by simpa using hb]; rfl, x1⟩) fun hb => ?_)))
  have hb : inR f.Kind 1 5 = true := by simpa using hb
  refine (R.ext x1).oI1 ((l02Uses_c _).go fun h2 x2 => tup2 (as_i (as_i ?_)))
  have X2 := x1.trans x2
  refine loop (fun x hh => ∃ m : Nat, x = (q, usesC f.Kind, usesS f.Kind, (m : Int)) ∧ m ≤ 3 ∧ Ext h hh ∧ ∀ i, i < m → usedAt f.C (usesC f.Kind) i = true) (fun x => (3 - x.2.2.2).toNat) ⟨0, rfl, by omega, X2, fun i hi => by omega⟩ ?_
  rintro x hh ⟨m, rfl, hn, X, hf⟩
  refine brd (fun hc => ?_) fun hc => ?_
  · refine idx (by omega) (by omega) ?_
    have Ra := ((R.ext X).foc foc_Filter_C).elem (i := m) (by omega)
    refine Ra.oF1 fun y hy => ?_
    have no : ∀ {h'}, Ext h h' → usedAt f.C (usesC f.Kind) m = false → ((Value.bool false = .bool f.ok) ∧ Ext h h') := fun x e => ⟨by rw [GFilter.ok, hb, show used f.C _ = false from all_false (i := m) (by omega) e]; rfl, x⟩
    have go : ∀ {h'}, Ext h h' → usedAt f.C (usesC f.Kind) m = true → (∃ m_1 : Nat, ((q, usesC f.Kind, usesS f.Kind, IntKind.i64.wrap ((m : Int) + 1)) : Addr × Int × Int × Int) = (q, usesC f.Kind, usesS f.Kind, (m_1 : Int)) ∧ m_1 ≤ 3 ∧ Ext h h' ∧ ∀ i, i < m_1 → usedAt f.C (usesC f.Kind) i = true) ∧ ((3 : Int) - IntKind.i64.wrap ((m : Int) + 1)).toNat < ((3 : Int) - (m : Int)).toNat := by
      intro h' x e
      rw [wrap64_succ (by omega)]
      refine ⟨⟨m + 1, rfl, by omega, x, fun i hi => ?_⟩, by omega⟩
      by_cases e' : i = m
      · subst e'; exact e
      · exact hf i (by omega)
    refine (l01Finite_c hy).go fun h1 x1 => as_b (br (fun hb => no (X.trans x1) ?_) fun hb => ?_)
    · rw [usedAt, show fin f.C[m]! = false by simpa using hb]; rfl
    have hb : fin f.C[m]! = true := by simpa using hb
    refine brd (fun h2 => ?_) fun h2 => go (X.trans x1) ?_
    · refine idx (by omega) (by omega) ((Ra.ext x1).oF1 fun y hy => (l01Same_c hy fw0).go fun h3 x3 => as_b (br (fun hb3 => no ((X.trans x1).trans x3) ?_) fun hb3 => go ((X.trans x1).trans x3) ?_))
      · rw [usedAt, hb, decide_eq_false (by omega), Bool.true_and, Bool.false_or]
        simpa using hb3
      · rw [usedAt, hb, decide_eq_false (by omega), Bool.true_and, Bool.false_or]
        simpa using hb3
    · rw [usedAt, hb, decide_eq_true (by omega)]; rfl
  have hCu : used f.C (usesC f.Kind) = true := all_true fun i hi => hf i (by omega)
  refine loop (fun x hh => ∃ m : Nat, x = (q, usesS f.Kind, (m : Int)) ∧ m ≤ 2 ∧ Ext h hh ∧ ∀ i, i < m → usedAt f.S (usesS f.Kind) i = true) (fun x => (2 - x.2.2).toNat) ⟨0, rfl, by omega, X, fun i hi => by omega⟩ ?_
  rintro x hh ⟨m, rfl, hn, X, hf⟩
  refine brd (fun hc => ?_) fun hc => ?_
  · refine idx (by omega) (by omega) ?_
    have Ra := ((R.ext X).foc foc_Filter_S).elem (i := m) (by omega)
    refine Ra.oF1 fun y hy => ?_
    have no : ∀ {h'}, Ext h h' → usedAt f.S (usesS f.Kind) m = false → ((Value.bool false = .bool f.ok) ∧ Ext h h') := fun x e => ⟨by rw [GFilter.ok, hb, show used f.S _ = false from all_false (i := m) (by omega) e, Bool.and_false], x⟩
    have go : ∀ {h'}, Ext h h' → usedAt f.S (usesS f.Kind) m = true → (∃ m_1 : Nat, ((q, usesS f.Kind, IntKind.i64.wrap ((m : Int) + 1)) : Addr × Int × Int) = (q, usesS f.Kind, (m_1 : Int)) ∧ m_1 ≤ 2 ∧ Ext h h' ∧ ∀ i, i < m_1 → usedAt f.S (usesS f.Kind) i = true) ∧ ((2 : Int) - IntKind.i64.wrap ((m : Int) + 1)).toNat < ((2 : Int) - (m : Int)).toNat := by
      intro h' x e
      rw [wrap64_succ (by omega)]
      refine ⟨⟨m + 1, rfl, by omega, x, fun i hi => ?_⟩, by omega⟩
      by_cases e' : i = m
      · subst e'; exact e
      · exact hf i (by omega)
    refine (l01Finite_c hy).go fun h1 x1 => as_b (br (fun hb => no (X.trans x1) ?_) fun hb => ?_)
    · rw [usedAt, show fin f.S[m]! = false by simpa using hb]; rfl
    have hb : fin f.S[m]! = true := by simpa using hb
    refine brd (fun h2 => ?_) fun h2 => go (X.trans x1) ?_
    · refine idx (by omega) (by omega) ((Ra.ext x1).oF1 fun y hy => (l01Same_c hy fw0).go fun h3 x3 => as_b (br (fun hb3 => no ((X.trans x1).trans x3) ?_) fun hb3 => go ((X.trans x1).trans x3) ?_))
      · rw [usedAt, hb, decide_eq_false (by omega), Bool.true_and, Bool.false_or]
        simpa using hb3
      · rw [usedAt, hb, decide_eq_false (by omega), Bool.true_and, Bool.false_or]
        simpa using hb3
    · rw [usedAt, hb, decide_eq_true (by omega)]; rfl
  · refine ⟨?_, X⟩
    rw [GFilter.ok, hb, hCu, show used f.S _ = true from all_true fun i hi => hf i (by omega)]; rfl
end Go.Sx
/- Filters moved on; blocks made by a function of their places. -/
set_option linter.unusedVariables false
set_option linter.unusedSimpArgs false
namespace Go.Sx
open Go.Proofs
set_option maxRecDepth 100000

theorem Pt.stF2 {α : Type} {r : Rep α} {h0 h : Heap} {q : Addr} {F : Fr} {L : List Blk} {a : α} {off : Nat} {get : α → List Nat} {put : α → List Nat → α} {x y m n : Nat} {K : Heap → Prop} (P : Pt r h0 h q F L a) (Fc : Foc r (rArr 2 (rF .f32)) off get put) (hx : FW .f32 x m) (hy : FW .f32 y n)
    (H : ∀ h', Pt r h0 h' q F L (put a [m, n]) → K h') : STA 2 h (q.add off) ⟨[.float .f32 x, .float .f32 y]⟩ K :=
  Pt.sts (B' := []) (b := [m, n]) P Fc rfl ⟨rfl, [], [], [.float .f32 x], [.float .f32 y], rfl, rfl, ⟨rfl, x, rfl, hx⟩, [], [], [.float .f32 y], [], rfl, rfl, ⟨rfl, y, rfl, hy⟩, rfl, rfl⟩ H
/-- What a step of a filter leaves. -/
def FStep (h0 h' : Heap) (q : Addr) (F : Fr) (L : List Blk) (f : GFilter) (a : Nat) (u : Value) : Prop := (∃ y, u = .float .f32 y ∧ FW .f32 y (f.step a).2) ∧ Pt rFilter h0 h' q F L (f.step a).1
section
variable {h0 h : Heap} {q : Addr} {F : Fr} {L : List Blk} {f : GFilter} {x a : Nat}
theorem step1 (hk : f.Kind = 1) : f.step a = ({ f with S := f.S.set 0 (kept (fadd .f32 (fmul .f32 f.C[0]! a) (fmul .f32 f.C[1]! f.S[0]!))) }, fadd .f32 (fmul .f32 f.C[0]! a) (fmul .f32 f.C[1]! f.S[0]!)) := by unfold GFilter.step; rw [if_pos hk]
theorem step2 (hk : f.Kind = 2) : f.step a = ({ f with S := f.S.set 0 (kept a) }, fadd .f32 (fmul .f32 f.C[0]! a) (fmul .f32 f.C[1]! f.S[0]!)) := by unfold GFilter.step; rw [if_neg (by omega), if_pos hk]
theorem step3 (hk : f.Kind = 3) : f.step a = ({ f with S := (f.S.set 0 (kept a)).set 1 (kept (fadd .f32 (fmul .f32 f.C[0]! (fsub .f32 a f.S[1]!)) f.S[0]!)) }, fadd .f32 (fmul .f32 f.C[0]! (fsub .f32 a f.S[1]!)) f.S[0]!) := by
  unfold GFilter.step; rw [if_neg (by omega), if_neg (by omega), if_pos hk]
theorem step4 (hk : f.Kind = 4) : f.step a = ({ f with S := (f.S.set 0 (kept (fsub .f32 (fsub .f32 (fmul .f32 f.C[0]! a) (fmul .f32 f.C[1]! f.S[0]!)) (fmul .f32 f.C[2]! f.S[1]!)))).set 1 (kept f.S[0]!) }, fsub .f32 (fsub .f32 (fmul .f32 f.C[0]! a) (fmul .f32 f.C[1]! f.S[0]!)) (fmul .f32 f.C[2]! f.S[1]!)) := by
  unfold GFilter.step; rw [if_neg (by omega), if_neg (by omega), if_neg (by omega), if_pos hk]
theorem step5 (h1 : f.Kind ≠ 1) (h2 : f.Kind ≠ 2) (h3 : f.Kind ≠ 3) (h4 : f.Kind ≠ 4) : f.step a = ({ f with S := (f.S.set 0 (kept a)).set 1 (kept (fadd .f32 (fsub .f32 a f.S[0]!) (fmul .f32 f.C[0]! f.S[1]!))) }, fadd .f32 (fsub .f32 a f.S[0]!) (fmul .f32 f.C[0]! f.S[1]!)) := by
  unfold GFilter.step; rw [if_neg h1, if_neg h2, if_neg h3, if_neg h4]
theorem FStep.of {f' : GFilter} {b y : Nat} (e : f.step a = (f', b)) (hy : FW .f32 y b) (P : Pt rFilter h0 h q F L f') : FStep h0 h q F L f a (.float .f32 y) := by
  unfold FStep
  rw [e]
  exact ⟨⟨y, rfl, hy⟩, P⟩
theorem step4r (hk : f.Kind = 4) : f.step a = ({ f with S := (f.S.set 1 (kept f.S[0]!)).set 0 (kept (fsub .f32 (fsub .f32 (fmul .f32 f.C[0]! a) (fmul .f32 f.C[1]! f.S[0]!)) (fmul .f32 f.C[2]! f.S[1]!))) }, fsub .f32 (fsub .f32 (fmul .f32 f.C[0]! a) (fmul .f32 f.C[1]! f.S[0]!)) (fmul .f32 f.C[2]! f.S[1]!)) := by
  rw [step4 hk, List.set_comm _ _ (by decide)]
set_option maxHeartbeats 2000000 in
theorem l02Step_c (P : Pt rFilter h0 h q F L f) (hx : FW .f32 x a) : CALL prg f_spec_l02Step #[.pointer (some q), .float .f32 x] (fun u h' => FStep h0 h' q F L f a u) h := by
  have R := P.rd
  refine spec_l02Step.call (idx (by omega) (by omega) (R.oF fun y1 hy1 => idx (by omega) (by omega) (R.oF fun y2 hy2 => R.oI1 (br (fun hb => ?_) fun hb1 => br (fun hb => ?_) fun hb2 => br (fun hb => ?_) fun hb3 => br (fun hb => ?_) fun hb4 => ?_))))
  · have hb : f.Kind = 1 := by simpa using hb
    refine idx (by omega) (by omega) (R.oF fun z1 hz1 => idx (by omega) (by omega) (R.oF fun z2 hz2 => ?_))
    (repeat' (first | refine pin_same ?_ | refine fM (by assumption) (by assumption) fun _ _ => ?_ | refine And.intro ?_ ?_ | refine fA (by assumption) (by assumption) fun _ _ => ?_ | refine fS (by assumption) (by assumption) fun _ _ => ?_))
    all_goals (
      refine Fl.go (l02Kept_c (by assumption)) fun h1 y x1 hy => ?_
      exact as_f (idx (by omega) (by omega) ((P.grow x1).stF hy fun h2 P2 => FStep.of (step1 hb) (by assumption) P2)))
  · have hb : f.Kind = 2 := by simpa using hb
    refine idx (by omega) (by omega) (R.oF fun z1 hz1 => idx (by omega) (by omega) (R.oF fun z2 hz2 => ?_))
    (repeat' (first | refine pin_same ?_ | refine fM (by assumption) (by assumption) fun _ _ => ?_ | refine And.intro ?_ ?_ | refine fA (by assumption) (by assumption) fun _ _ => ?_ | refine fS (by assumption) (by assumption) fun _ _ => ?_))
    all_goals (
      refine (l02Kept_c hx).go fun h1 y x1 hy => ?_
      exact as_f (idx (by omega) (by omega) ((P.grow x1).stF hy fun h2 P2 => FStep.of (step2 hb) (by assumption) P2)))
  · have hb : f.Kind = 3 := by simpa using hb
    refine idx (by omega) (by omega) (R.oF fun z1 hz1 => ?_)
    (repeat' (first | refine pin_same ?_ | refine fM (by assumption) (by assumption) fun _ _ => ?_ | refine And.intro ?_ ?_ | refine fA (by assumption) (by assumption) fun _ _ => ?_ | refine fS (by assumption) (by assumption) fun _ _ => ?_))
    all_goals (
      refine (l02Kept_c hx).go fun h1 y x1 hy => as_f (idx (by omega) (by omega) ((P.grow x1).stF hy fun h2 P2 => ?_))
      refine Fl.go (l02Kept_c (by assumption)) fun h3 y x3 hy => ?_
      exact as_f (idx (by omega) (by omega) ((P2.grow x3).stF hy fun h4 P4 => FStep.of (step3 hb) (by assumption) P4)))
  · have hb : f.Kind = 4 := by simpa using hb
    refine idx (by omega) (by omega) (R.oF fun z1 hz1 => idx (by omega) (by omega) (R.oF fun z2 hz2 => idx (by omega) (by omega) (R.oF fun z3 hz3 => ?_)))
    (repeat' (first | refine pin_same ?_ | refine fM (by assumption) (by assumption) fun _ _ => ?_ | refine And.intro ?_ ?_ | refine fA (by assumption) (by assumption) fun _ _ => ?_ | refine fS (by assumption) (by assumption) fun _ _ => ?_))
    all_goals (
      refine (l02Kept_c hy1).go fun h1 y x1 hy => ?_
      refine as_f (idx (by omega) (by omega) ((P.grow x1).stF hy fun h2 P2 => ?_))
      refine Fl.go (l02Kept_c (by assumption)) fun h3 y x3 hy => ?_
      exact as_f (idx (by omega) (by omega) ((P2.grow x3).stF hy fun h4 P4 => FStep.of (step4r hb) (by assumption) P4)))
  · refine fS hx hy1 fun w1 hw1 => idx (by omega) (by omega) (R.oF fun z1 hz1 => ?_)
    (repeat' (first | refine pin_same ?_ | refine fM (by assumption) (by assumption) fun _ _ => ?_ | refine And.intro ?_ ?_ | refine fA (by assumption) (by assumption) fun _ _ => ?_ | refine fS (by assumption) (by assumption) fun _ _ => ?_))
    all_goals (
      refine (l02Kept_c hx).go fun h1 y x1 hy => as_f (idx (by omega) (by omega) ((P.grow x1).stF hy fun h2 P2 => ?_))
      refine Fl.go (l02Kept_c (by assumption)) fun h3 y x3 hy => ?_
      exact as_f (idx (by omega) (by omega) ((P2.grow x3).stF hy fun h4 P4 => FStep.of (step5 (by simpa using hb1) (by simpa using hb2) (by simpa using hb3) (by simpa using hb4)) (by assumption) P4)))
end
end Go.Sx
/- A slice that lies in own data taken out with its blocks, and put back changed. -/
set_option linter.unusedVariables false
set_option linter.unusedSimpArgs false
namespace Go.Sx
section
variable {α β : Type} {r : Rep α} {h0 h : Heap} {q : Addr} {F : Fr} {L : List Blk} {a : α} {off e : Nat} {s : Rep β} {get : α → List β} {put : α → List β → α}
/-- What lies beside a part stays. -/
theorem Pt.focK {γ : Type} {p : Rep γ} {get : α → γ} {put : α → γ → α} (P : Pt r h0 h q F L a) (Fc : Foc r p off get put) : ∃ F' L', Pt p h0 h (q.add off) F' L' (get a) ∧ L.Sublist L' ∧
    ∀ h0' h' b', Pt p h0' h' (q.add off) F' L' b' → Pt r h0' h' q F L (put a b') ∧ ∀ k, (k < off ∨ off + p.sz ≤ k) → cell h' (q.add k) = cell h (q.add k) := by
  obtain ⟨rfl, mid, B, M, O⟩ := P
  obtain ⟨pre, md, post, B1, Bm, B2, e1, rfl, rfl, O1, O2⟩ := Fc.fo O
  refine ⟨⟨F.g, F.T, F.pre ++ pre, post ++ F.post⟩, B1 ++ (B2 ++ L), ⟨?_, md, Bm, ?_, O1⟩, ?_, fun h0' h' b' P' => ?_⟩
  · rw [add_none]; simp [e1]
  · have := M.perm (perm_out _ _ _ _ _)
    simpa using this
  · exact (List.sublist_append_right _ _).trans (List.sublist_append_right _ _)
  · obtain ⟨_, md', B', M', O'⟩ := P'
    have M2 := M'.perm (perm_out _ _ _ _ _).symm
    refine ⟨⟨rfl, pre ++ (md' ++ post), B1 ++ (B' ++ B2), by simpa using M2, O2 B' md' b' O'⟩, fun k hk => ?_⟩
    have l1 := p.olen O1
    have l2 := p.olen O'
    rw [add_none, M.cell .here, M2.cell .here]
    simp only [List.getElem?_toArray, List.append_assoc]
    rw [List.getElem?_append_right (Nat.le_add_right _ _), List.getElem?_append_right (Nat.le_add_right _ _)]
    rw [Nat.add_sub_cancel_left]
    rcases hk with hk | hk
    · rw [List.getElem?_append_left (by omega), List.getElem?_append_left (by omega)]
    · rw [List.getElem?_append_right (l₁ := pre) (by omega), List.getElem?_append_right (l₁ := pre) (by omega), List.getElem?_append_right (l₁ := md') (by omega), List.getElem?_append_right (l₁ := md) (by omega), l1, l2]
/-- An element of a slice that lies in own data: no cell of the data themselves changes. -/
theorem Pt.elemK [Inhabited β] {i l c : Nat} {b : Option Addr} (P : Pt r h0 h q F L a) [Fc : FocC r off (rSl e s) get put] (hb : cell h (q.add off) = some (.slice b l c)) (hi : i < l) :
    ∃ a0 F' L', b = some a0 ∧ Pt s h0 h (a0.add (i * s.sz)) F' L' (get a)[i]! ∧ L.Sublist L' ∧ ∀ h0' h' x, Pt s h0' h' (a0.add (i * s.sz)) F' L' x → Pt r h0' h' q F L (put a ((get a).set i x)) ∧ ∀ k, cell h' (q.add k) = cell h (q.add k) := by
  obtain ⟨F1, L1, P1, hs, close⟩ := P.focK Fc.f
  obtain ⟨eq, mid, B, M, b', l', c', rfl, S⟩ := P1
  have e0 : cell h (q.add off) = some (.slice b' l' c') := by
    rw [eq, M.cell .here]; simp
  rw [hb] at e0
  cases e0
  have M1 : Mem h0 h (B ++ ((F1.g, F1.T, ⟨F1.pre ++ ([.slice b l c] ++ F1.post)⟩) :: L1)) := M.perm List.perm_middle.symm
  obtain ⟨a0, F2, L2, rfl, P2, hs2, close2⟩ := S.elem M1 hi
  refine ⟨a0, F2, L2, rfl, P2, (hs.trans (List.sublist_cons_self _ _)).trans hs2, fun h0' h' x P' => ?_⟩
  obtain ⟨B', S', M'⟩ := close2 h0' h' x P'
  have M2 := M'.perm List.perm_middle
  obtain ⟨P3, hk⟩ := close h0' h' _ ⟨eq, [.slice (some a0) l c], B', M2, _, _, _, rfl, S'⟩
  refine ⟨P3, fun k => ?_⟩
  by_cases h1 : k < off ∨ off + (rSl e s).sz ≤ k
  · exact hk k h1
  · obtain rfl : k = off := by
      have : (rSl e s).sz = 1 := rfl
      omega
    rw [hb, eq, M2.cell .here]; simp
theorem Pt.elemK1 [Inhabited β] {i l c : Nat} {b : Option Addr} (P : Pt r h0 h q F L a) [Fc : FocC r 0 (rSl e s) get put] (hb : cell h q = some (.slice b l c)) (hi : i < l) :
    ∃ a0 F' L', b = some a0 ∧ Pt s h0 h (a0.add (i * s.sz)) F' L' (get a)[i]! ∧ L.Sublist L' ∧ ∀ h0' h' x, Pt s h0' h' (a0.add (i * s.sz)) F' L' x → Pt r h0' h' q F L (put a ((get a).set i x)) ∧ ∀ k, cell h' (q.add k) = cell h (q.add k) :=
  P.elemK (off := 0) (by rwa [add0]) hi
end
end Go.Sx
