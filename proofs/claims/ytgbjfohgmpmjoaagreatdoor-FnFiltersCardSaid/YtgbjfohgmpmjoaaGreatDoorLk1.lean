/- Rings and filters in the program: what the functions compute. -/
import Derived.Test.YtgbjfohgmpmjoaaGreatDoorTabE
import Derived.Test.YtgbjfohgmpmjoaaGreatDoorLp4
import Derived.Test.YtgbjfohgmpmjoaaGreatDoorK0
import Derived.Test.YtgbjfohgmpmjoaaGreatDoorK1
set_option linter.unusedVariables false
set_option linter.unusedSimpArgs false
namespace Go.Sx
open Go.Proofs
set_option maxRecDepth 100000

theorem maxLen_lt : (maxLen : Nat) < 9223372036854775808 := by decide
/-- Where the first element is of which p holds; -1: nowhere. -/
def firstAt {α : Type} (p : α → Bool) (l : List α) : Int := if l.any p then (l.findIdx p : Nat) else -1
theorem firstAt_none {α : Type} [Inhabited α] {p : α → Bool} {l : List α} (h : ∀ i, i < l.length → p l[i]! = false) : firstAt p l = -1 := by
  unfold firstAt
  rw [if_neg]
  rw [Bool.not_eq_true, List.any_eq_false]
  intro x hx
  obtain ⟨i, hi, rfl⟩ := List.mem_iff_getElem.1 hx
  have := h i hi
  rw [getElem!_pos l i hi] at this
  rw [this]; decide
theorem firstAt_some {α : Type} [Inhabited α] {p : α → Bool} {l : List α} {n : Nat} (hn : n < l.length) (h : ∀ i, i < n → p l[i]! = false) (hp : p l[n]! = true) : firstAt p l = n := by
  unfold firstAt
  rw [getElem!_pos l n hn] at hp
  rw [if_pos (List.any_eq_true.2 ⟨_, List.getElem_mem hn, hp⟩)]
  congr 1
  rw [List.findIdx_eq hn]
  refine ⟨hp, fun j hj => ?_⟩
  have := h j hj
  rw [getElem!_pos l j (by omega)] at this
  simpa using this
theorem firstAt_any {α : Type} (p : α → Bool) (l : List α) : decide (0 ≤ firstAt p l) = l.any p := by
  unfold firstAt
  split
  · next h => rw [h]; exact decide_eq_true (by omega)
  · next h => rw [Bool.not_eq_true] at h; rw [h]; rfl
theorem CALLD.mono {P : Program} {f : Value} {args : Array Value} {K K' : Value → Heap → Prop} {h : Heap} (hk : ∀ v h, K v h → K' v h) (H : CALLD P f args K h) : CALLD P f args K' h := by
  unfold CALLD at H ⊢
  split at H
  · exact CALL.mono hk H
  · exact SEMN.mono hk H
end Go.Sx
/- Filters: what the functions compute. -/
set_option linter.unusedVariables false
set_option linter.unusedSimpArgs false
namespace Go.Sx
open Go.Proofs
set_option maxRecDepth 100000

def usesI (k : Int) : Int := if inR k 1 5 then usesC k else 0
def usesJ (k : Int) : Int := if inR k 1 5 then usesS k else 0
theorem uses_c (k : Int) : Ret prg f_impl_uses #[.int .i64 k] (.tuple ⟨[.int .i64 (usesI k), .int .i64 (usesJ k)]⟩) := fun h => by
  refine impl_uses.call ?_
  unfold impl_uses.S
  repeat' refine br (fun _ => ?_) (fun _ => ?_)
  all_goals (refine ⟨?_, Ext.refl _⟩; simp_all [usesI, usesJ, usesC, usesS, inR])
  all_goals omega
def usedAt (l : List Nat) (n : Int) (i : Nat) : Bool := fin l[i]! && (decide ((i : Int) < n) || l[i]! == 0)
theorem isUsed_c {h : Heap} {b : Option Addr} {l c : Nat} {xs : List Nat} (S : SlR (rF .f32) h b l c xs) (n : Int) : CALL prg f_impl_isUsed #[.slice b l c, .int .i64 n] (fun u h' => u = .bool (used xs n) ∧ Ext h h') h := by
  refine impl_isUsed.call ?_
  have hm2 := S.2.2.1
  have hm3 := S.2.1
  have := maxLen_lt
  have hl := S.len
  refine loop (fun x hh => ∃ m : Nat, x = (n, b, l, c, (l : Int), (m : Int)) ∧ m ≤ l ∧ Ext h hh ∧ ∀ i, i < m → usedAt xs n i = true) (fun x => (l - x.2.2.2.2.2).toNat) ⟨0, rfl, by omega, Ext.refl _, fun i hi => by omega⟩ ?_
  rintro x hh ⟨m, rfl, hn, X, hf⟩
  refine brd (fun hc => ?_) fun hc => ?_
  · refine (S.ext X).idx (by decide) (by omega) (by omega) fun a Ra => Ra.oF1 fun y hy => ?_
    have no : ∀ {h'}, Ext h h' → usedAt xs n m = false → ((Value.bool false = .bool (used xs n)) ∧ Ext h h') := fun x e => ⟨by rw [show used xs n = false from all_false (i := m) (by omega) e], x⟩
    have go : ∀ {h'}, Ext h h' → usedAt xs n m = true → (∃ m_1 : Nat, ((n, b, l, c, (l : Int), IntKind.i64.wrap ((m : Int) + 1)) : Int × Option Addr × Nat × Nat × Int × Int) = (n, b, l, c, (l : Int), (m_1 : Int)) ∧ m_1 ≤ l ∧ Ext h h' ∧ ∀ i, i < m_1 → usedAt xs n i = true) ∧ ((l : Int) - IntKind.i64.wrap ((m : Int) + 1)).toNat < ((l : Int) - (m : Int)).toNat := by
      intro h' x e
      rw [wrap64_succ (by omega)]
      refine ⟨⟨m + 1, rfl, by omega, x, fun i hi => ?_⟩, by omega⟩
      by_cases e' : i = m
      · subst e'; exact e
      · exact hf i (by omega)
    refine (isFinite_c hy).go fun h1 x1 => as_b (br (fun hb => no (X.trans x1) ?_) fun hb => ?_)
    · rw [usedAt, show fin xs[m]! = false by simpa using hb]; rfl
    have hb : fin xs[m]! = true := by simpa using hb
    refine brd (fun h2 => ?_) fun h2 => go (X.trans x1) ?_
    · refine (bitsOf_c hy).go fun h3 x3 => as_i (br (fun hb3 => no ((X.trans x1).trans x3) ?_) fun hb3 => go ((X.trans x1).trans x3) ?_)
      · rw [usedAt, hb, decide_eq_false (by omega), Bool.true_and, Bool.false_or]
        have hb3 : (xs[m]! : Int) ≠ 0 := by simpa using hb3
        exact beq_false_of_ne (by omega)
      · rw [usedAt, hb, decide_eq_false (by omega), Bool.true_and, Bool.false_or]
        have hb3 : (xs[m]! : Int) = 0 := by simpa using hb3
        exact beq_iff_eq.2 (by omega)
    · rw [usedAt, hb, decide_eq_true (by omega)]; rfl
  · refine ⟨?_, X⟩
    rw [show used xs n = true from all_true fun i hi => hf i (by omega)]
theorem usesI_pos (k : Int) : decide (0 < usesI k) = inR k 1 5 := by
  unfold usesI
  split
  · next h => rw [h]; apply decide_eq_true; unfold usesC; split <;> (try split) <;> omega
  · next h => rw [Bool.not_eq_true] at h; rw [h]; rfl
theorem ValidFilter_c {h : Heap} {cs : Array Value} {f : GFilter} (R : rFilter.rd h cs.toList f) : CALL prg f_impl_ValidFilter #[.agg cs] (fun u h' => u = .bool f.ok ∧ Ext h h') h := by
  refine impl_ValidFilter.call (alcR R fun g h1 x1 R1 => R1.oI2 ((uses_c _).go fun h2 x2 => tup2 (as_i (as_i ?_))))
  rw [usesI_pos]
  have X2 := x1.trans x2
  have R2 := R1.ext x2
  refine br (fun hb => ?_) fun hb => ⟨by rw [GFilter.ok, hb]; rfl, X2⟩
  have e1 : usesI f.Kind = usesC f.Kind := by rw [usesI, if_pos hb]
  have e2 : usesJ f.Kind = usesS f.Kind := by rw [usesJ, if_pos hb]
  rw [e1, e2]
  refine slb (by omega) (by omega) (by omega) ?_
  rw [slP_zero]
  refine (isUsed_c ((R2.foc0 foc_Filter_C).arr (by decide)) _).mono ?_
  rintro _ h3 ⟨rfl, x3⟩
  refine as_b (br (fun hc => ?_) fun hc => ⟨by rw [GFilter.ok, hb, hc]; rfl, X2.trans x3⟩)
  refine slb (by omega) (by omega) (by omega) ?_
  rw [slP_zero]
  refine (isUsed_c (((R2.ext x3).foc0 foc_Filter_S).arr (by decide)) _).mono ?_
  rintro _ h4 ⟨rfl, x4⟩
  exact as_b ⟨by rw [GFilter.ok, hb, hc]; rfl, (X2.trans x3).trans x4⟩
end Go.Sx
/- Filters moved on; blocks made by a function of their places. -/
set_option linter.unusedVariables false
set_option linter.unusedSimpArgs false
namespace Go.Sx
open Go.Proofs
set_option maxRecDepth 100000

theorem Pt.stF2 {α : Type} {r : Rep α} {h0 h : Heap} {q : Addr} {F : Fr} {L : List Blk} {a : α} {off : Nat} {get : α → List Nat} {put : α → List Nat → α} {x y m n : Nat} {K : Heap → Prop} (P : Pt r h0 h q F L a) (Fc : Foc r (rArr 2 (rF .f32)) off get put) (hx : FW .f32 x m) (hy : FW .f32 y n)
    (H : ∀ h', Pt r h0 h' q F L (put a [m, n]) → K h') : STA 2 h (q.add off) ⟨[.float .f32 x, .float .f32 y]⟩ K :=
  Pt.sts (B' := []) (b := [m, n]) P Fc rfl ⟨rfl, [], [], [.float .f32 x], [.float .f32 y], rfl, rfl, ⟨rfl, x, rfl, hx⟩, [], [], [.float .f32 y], [], rfl, rfl, ⟨rfl, y, rfl, hy⟩, rfl, rfl⟩ H
theorem set01 {l : List Nat} (h : l.length = 2) (a b : Nat) : (l.set 0 a).set 1 b = [a, b] := by
  match l, h with
  | [x, y], _ => rfl
/-- What a step of a filter leaves. -/
def FStep (h0 h' : Heap) (q : Addr) (F : Fr) (L : List Blk) (f : GFilter) (a : Nat) (u : Value) : Prop := (∃ y, u = .float .f32 y ∧ FW .f32 y (f.step a).2) ∧ Pt rFilter h0 h' q F L (f.step a).1
section
variable {h0 h : Heap} {q : Addr} {F : Fr} {L : List Blk} {f : GFilter} {x a : Nat}
theorem step1 (hk : f.Kind = 1) : f.step a = ({ f with S := f.S.set 0 (kept (fadd .f32 (fmul .f32 f.C[0]! a) (fmul .f32 f.C[1]! f.S[0]!))) }, fadd .f32 (fmul .f32 f.C[0]! a) (fmul .f32 f.C[1]! f.S[0]!)) := by unfold GFilter.step; rw [if_pos hk]
theorem step2 (hk : f.Kind = 2) : f.step a = ({ f with S := f.S.set 0 (kept a) }, fadd .f32 (fmul .f32 f.C[0]! a) (fmul .f32 f.C[1]! f.S[0]!)) := by unfold GFilter.step; rw [if_neg (by omega), if_pos hk]
theorem step3 (hk : f.Kind = 3) : f.step a = ({ f with S := (f.S.set 0 (kept a)).set 1 (kept (fadd .f32 (fmul .f32 f.C[0]! (fsub .f32 a f.S[1]!)) f.S[0]!)) }, fadd .f32 (fmul .f32 f.C[0]! (fsub .f32 a f.S[1]!)) f.S[0]!) := by
  unfold GFilter.step; rw [if_neg (by omega), if_neg (by omega), if_pos hk]
theorem step4 (hk : f.Kind = 4) : f.step a = ({ f with S := (f.S.set 0 (kept (fsub .f32 (fsub .f32 (fmul .f32 f.C[0]! a) (fmul .f32 f.C[1]! f.S[0]!)) (fmul .f32 f.C[2]! f.S[1]!)))).set 1 (kept f.S[0]!) }, fsub .f32 (fsub .f32 (fmul .f32 f.C[0]! a) (fmul .f32 f.C[1]! f.S[0]!)) (fmul .f32 f.C[2]! f.S[1]!)) := by
  unfold GFilter.step; rw [if_neg (by omega), if_neg (by omega), if_neg (by omega), if_pos hk]
theorem step5 (h1 : f.Kind ≠ 1) (h2 : f.Kind ≠ 2) (h3 : f.Kind ≠ 3) (h4 : f.Kind ≠ 4) : f.step a = ({ f with S := (f.S.set 0 (kept a)).set 1 (kept (fadd .f32 (fsub .f32 a f.S[0]!) (fmul .f32 f.C[0]! f.S[1]!))) }, fadd .f32 (fsub .f32 a f.S[0]!) (fmul .f32 f.C[0]! f.S[1]!)) := by
  unfold GFilter.step; rw [if_neg h1, if_neg h2, if_neg h3, if_neg h4]
theorem FStep.of {f' : GFilter} {b y : Nat} (e : f.step a = (f', b)) (hy : FW .f32 y b) (P : Pt rFilter h0 h q F L f') : FStep h0 h q F L f a (.float .f32 y) := by
  unfold FStep
  rw [e]
  exact ⟨⟨y, rfl, hy⟩, P⟩
theorem step4r (hk : f.Kind = 4) : f.step a = ({ f with S := (f.S.set 1 (kept f.S[0]!)).set 0 (kept (fsub .f32 (fsub .f32 (fmul .f32 f.C[0]! a) (fmul .f32 f.C[1]! f.S[0]!)) (fmul .f32 f.C[2]! f.S[1]!))) }, fsub .f32 (fsub .f32 (fmul .f32 f.C[0]! a) (fmul .f32 f.C[1]! f.S[0]!)) (fmul .f32 f.C[2]! f.S[1]!)) := by
  rw [step4 hk, List.set_comm _ _ (by decide)]
set_option maxHeartbeats 2000000 in
theorem l02Step_c (P : Pt rFilter h0 h q F L f) (hx : FW .f32 x a) : CALL prg f_spec_l02Step #[.pointer (some q), .float .f32 x] (fun u h' => FStep h0 h' q F L f a u) h := by
  have R := P.rd
  refine spec_l02Step.call (idx (by omega) (by omega) (R.oF fun y1 hy1 => idx (by omega) (by omega) (R.oF fun y2 hy2 => R.oI1 (br (fun hb => ?_) fun hb1 => br (fun hb => ?_) fun hb2 => br (fun hb => ?_) fun hb3 => br (fun hb => ?_) fun hb4 => ?_))))
  · have hb : f.Kind = 1 := by simpa using hb
    refine idx (by omega) (by omega) (R.oF fun z1 hz1 => idx (by omega) (by omega) (R.oF fun z2 hz2 => ?_))
    (repeat' (first | refine pin_same ?_ | refine fM (by assumption) (by assumption) fun _ _ => ?_ | refine And.intro ?_ ?_ | refine fA (by assumption) (by assumption) fun _ _ => ?_ | refine fS (by assumption) (by assumption) fun _ _ => ?_))
    all_goals (
      refine Fl.go (l02Kept_c (by assumption)) fun h1 y x1 hy => ?_
      exact as_f (idx (by omega) (by omega) ((P.grow x1).stF hy fun h2 P2 => FStep.of (step1 hb) (by assumption) P2)))
  · have hb : f.Kind = 2 := by simpa using hb
    refine idx (by omega) (by omega) (R.oF fun z1 hz1 => idx (by omega) (by omega) (R.oF fun z2 hz2 => ?_))
    (repeat' (first | refine pin_same ?_ | refine fM (by assumption) (by assumption) fun _ _ => ?_ | refine And.intro ?_ ?_ | refine fA (by assumption) (by assumption) fun _ _ => ?_ | refine fS (by assumption) (by assumption) fun _ _ => ?_))
    all_goals (
      refine (l02Kept_c hx).go fun h1 y x1 hy => ?_
      exact as_f (idx (by omega) (by omega) ((P.grow x1).stF hy fun h2 P2 => FStep.of (step2 hb) (by assumption) P2)))
  · have hb : f.Kind = 3 := by simpa using hb
    refine idx (by omega) (by omega) (R.oF fun z1 hz1 => ?_)
    (repeat' (first | refine pin_same ?_ | refine fM (by assumption) (by assumption) fun _ _ => ?_ | refine And.intro ?_ ?_ | refine fA (by assumption) (by assumption) fun _ _ => ?_ | refine fS (by assumption) (by assumption) fun _ _ => ?_))
    all_goals (
      refine (l02Kept_c hx).go fun h1 y x1 hy => as_f (idx (by omega) (by omega) ((P.grow x1).stF hy fun h2 P2 => ?_))
      refine Fl.go (l02Kept_c (by assumption)) fun h3 y x3 hy => ?_
      exact as_f (idx (by omega) (by omega) ((P2.grow x3).stF hy fun h4 P4 => FStep.of (step3 hb) (by assumption) P4)))
  · have hb : f.Kind = 4 := by simpa using hb
    refine idx (by omega) (by omega) (R.oF fun z1 hz1 => idx (by omega) (by omega) (R.oF fun z2 hz2 => idx (by omega) (by omega) (R.oF fun z3 hz3 => ?_)))
    (repeat' (first | refine pin_same ?_ | refine fM (by assumption) (by assumption) fun _ _ => ?_ | refine And.intro ?_ ?_ | refine fA (by assumption) (by assumption) fun _ _ => ?_ | refine fS (by assumption) (by assumption) fun _ _ => ?_))
    all_goals (
      refine (l02Kept_c hy1).go fun h1 y x1 hy => ?_
      refine as_f (idx (by omega) (by omega) ((P.grow x1).stF hy fun h2 P2 => ?_))
      refine Fl.go (l02Kept_c (by assumption)) fun h3 y x3 hy => ?_
      exact as_f (idx (by omega) (by omega) ((P2.grow x3).stF hy fun h4 P4 => FStep.of (step4r hb) (by assumption) P4)))
  · refine fS hx hy1 fun w1 hw1 => idx (by omega) (by omega) (R.oF fun z1 hz1 => ?_)
    (repeat' (first | refine pin_same ?_ | refine fM (by assumption) (by assumption) fun _ _ => ?_ | refine And.intro ?_ ?_ | refine fA (by assumption) (by assumption) fun _ _ => ?_ | refine fS (by assumption) (by assumption) fun _ _ => ?_))
    all_goals (
      refine (l02Kept_c hx).go fun h1 y x1 hy => as_f (idx (by omega) (by omega) ((P.grow x1).stF hy fun h2 P2 => ?_))
      refine Fl.go (l02Kept_c (by assumption)) fun h3 y x3 hy => ?_
      exact as_f (idx (by omega) (by omega) ((P2.grow x3).stF hy fun h4 P4 => FStep.of (step5 (by simpa using hb1) (by simpa using hb2) (by simpa using hb3) (by simpa using hb4)) (by assumption) P4)))
theorem Filter_step_c (P : Pt rFilter h0 h q F L f) (hx : FW .f32 x a) : CALL prg f_p_impl_Filter_step #[.pointer (some q), .float .f32 x] (fun u h' => FStep h0 h' q F L f a u) h := by
  have R := P.rd
  have RC := R.foc foc_Filter_C
  have RS := R.foc foc_Filter_S
  have hS : f.S.length = 2 := RS.len
  have key : ∀ {hh : Heap} {L' : List Blk} {c s : Addr}, L.Sublist L' → Pt rFilter h0 hh q F L' f → RdP (rArr 3 (rF .f32)) hh c f.C → RdP (rArr 2 (rF .f32)) hh s f.S → p_impl_Filter_step.J2 (fun u h' => FStep h0 h' q F L f a u) q x c s hh := by
    intro hh L' c s hs P C S
    replace P := P.sub hs
    have R := P.rd
    refine R.oI1 (br (fun hb => ?_) fun hb1 => br (fun hb => ?_) fun hb2 => br (fun hb => ?_) fun hb3 => br (fun hb => ?_) fun hb4 => ?_)
    · have hb : f.Kind = 1 := by simpa using hb
      refine idx (by omega) (by omega) (C.oF1 fun z1 hz1 => fM hz1 hx fun w1 hw1 => idx (by omega) (by omega) (C.oF fun z2 hz2 => idx (by omega) (by omega) (S.oF1 fun z3 hz3 => fM hz2 hz3 fun w2 hw2 => fA hw1 hw2 fun w3 hw3 => ?_)))
      exact (kept_c hw3).go fun h1 y x1 hy => as_f (idx (by omega) (by omega) ((P.grow x1).stF hy fun h2 P2 => FStep.of (step1 hb) hw3 P2))
    · have hb : f.Kind = 2 := by simpa using hb
      refine idx (by omega) (by omega) (C.oF1 fun z1 hz1 => fM hz1 hx fun w1 hw1 => idx (by omega) (by omega) (C.oF fun z2 hz2 => idx (by omega) (by omega) (S.oF1 fun z3 hz3 => fM hz2 hz3 fun w2 hw2 => fA hw1 hw2 fun w3 hw3 => ?_)))
      exact (kept_c hx).go fun h1 y x1 hy => as_f (idx (by omega) (by omega) ((P.grow x1).stF hy fun h2 P2 => FStep.of (step2 hb) hw3 P2))
    · have hb : f.Kind = 3 := by simpa using hb
      refine idx (by omega) (by omega) (C.oF1 fun z1 hz1 => idx (by omega) (by omega) (S.oF fun z2 hz2 => fS hx hz2 fun w1 hw1 => fM hz1 hw1 fun w2 hw2 => idx (by omega) (by omega) (S.oF1 fun z3 hz3 => fA hw2 hz3 fun w3 hw3 => ?_)))
      refine (kept_c hx).go fun h1 y1 x1 hy1 => as_f ((kept_c hw3).go fun h2 y2 x2 hy2 => as_f ((P.grow (x1.trans x2)).stF2 foc_Filter_S hy1 hy2 fun h3 P3 => ?_))
      exact FStep.of (by rw [step3 hb, set01 hS]) hw3 P3
    · have hb : f.Kind = 4 := by simpa using hb
      refine idx (by omega) (by omega) (C.oF1 fun z1 hz1 => fM hz1 hx fun w1 hw1 => idx (by omega) (by omega) (C.oF fun z2 hz2 => idx (by omega) (by omega) (S.oF1 fun z3 hz3 => fM hz2 hz3 fun w2 hw2 => fS hw1 hw2 fun w3 hw3 => ?_)))
      refine idx (by omega) (by omega) (C.oF fun z4 hz4 => idx (by omega) (by omega) (S.oF fun z5 hz5 => fM hz4 hz5 fun w4 hw4 => fS hw3 hw4 fun w5 hw5 => idx (by omega) (by omega) (S.oF1 fun z6 hz6 => ?_)))
      refine (kept_c hw5).go fun h1 y1 x1 hy1 => as_f ((S.fst (Foc.arr _ 0 (by decide))).pin rfl x1 ((kept_c hz6).go fun h2 y2 x2 hy2 => as_f ((P.grow (x1.trans x2)).stF2 foc_Filter_S hy1 hy2 fun h3 P3 => ?_)))
      exact FStep.of (by rw [step4 hb, set01 hS]) hw5 P3
    · refine idx (by omega) (by omega) (S.oF1 fun z1 hz1 => fS hx hz1 fun w1 hw1 => idx (by omega) (by omega) (C.oF1 fun z2 hz2 => idx (by omega) (by omega) (S.oF fun z3 hz3 => fM hz2 hz3 fun w2 hw2 => fA hw1 hw2 fun w3 hw3 => ?_)))
      refine (kept_c hx).go fun h1 y1 x1 hy1 => as_f ((kept_c hw3).go fun h2 y2 x2 hy2 => as_f ((P.grow (x1.trans x2)).stF2 foc_Filter_S hy1 hy2 fun h3 P3 => ?_))
      exact FStep.of (by rw [step5 (by simpa using hb1) (by simpa using hb2) (by simpa using hb3) (by simpa using hb4), set01 hS]) hw3 P3
  refine p_impl_Filter_step.call (R.lda foc_Filter_C rfl fun cC rC => R.lda foc_Filter_S rfl fun cS rS => ?_)
  have l3 : cC.size = 3 := by have := (rArr 3 (rF .f32)).rlen rC; rw [Array.length_toList] at this; exact this
  have l2 : cS.size = 2 := by have := (rArr 2 (rF .f32)).rlen rS; rw [Array.length_toList] at this; exact this
  refine ⟨?_, ?_⟩
  · refine (Mem.start h).alc fun g1 h1 x1 M => RS.pin rfl x1 (RC.pin rfl x1 (M.alc fun g2 h2 x2 M => RS.pin rfl M.ext (RC.pin rfl M.ext ?_)))
    refine M.sta0 (.there .here) l3 ((rArr 3 (rF .f32)).rone rC) rfl (.there .here) fun h3 M => RS.pin rfl M.ext ?_
    refine M.sta0 .here l2 ((rArr 2 (rF .f32)).rone rS) rfl .here fun h4 M => ?_
    exact key (List.sublist_append_right _ _) (P.join M) (M.rdp (.there .here) ((rArr 3 (rF .f32)).ext M.ext rC)) (M.rdp .here ((rArr 2 (rF .f32)).ext M.ext rS))
  · refine (Mem.start h).alc fun g1 h1 x1 M => RS.pin rfl x1 (RC.pin rfl x1 (M.alc fun g2 h2 x2 M => RS.pin rfl M.ext (RC.pin rfl M.ext ?_)))
    refine M.sta0 .here l3 ((rArr 3 (rF .f32)).rone rC) rfl .here fun h3 M => RS.pin rfl M.ext ?_
    refine M.sta0 (.there .here) l2 ((rArr 2 (rF .f32)).rone rS) rfl (.there .here) fun h4 M => ?_
    exact key (List.sublist_append_right _ _) (P.join M) (M.rdp .here ((rArr 3 (rF .f32)).ext M.ext rC)) (M.rdp (.there .here) ((rArr 2 (rF .f32)).ext M.ext rS))
end
end Go.Sx
