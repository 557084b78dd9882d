/- The program's comparisons of rings, filters, tunings. -/
import Derived.Test.YtgbjfohgmpmjoaaGreatDoorLk24
import Derived.Test.YtgbjfohgmpmjoaaGreatDoorLk43
import Derived.Test.YtgbjfohgmpmjoaaGreatDoorTab
import Derived.Test.YtgbjfohgmpmjoaaGreatDoorLk4
import Derived.Test.YtgbjfohgmpmjoaaGreatDoorK2
import Derived.Test.YtgbjfohgmpmjoaaGreatDoorLk1
set_option linter.unusedVariables false
set_option linter.unusedSimpArgs false
namespace Go.Sx
open Go.Proofs
set_option maxRecDepth 100000
set_option maxHeartbeats 1000000

section
variable {h : Heap}
theorem EqualFunc_f32_c {b1 b2 : Option Addr} {l1 c1 l2 c2 : Nat} {xs ys : List Nat} (S1 : SlR (rF .f32) h b1 l1 c1 xs) (S2 : SlR (rF .f32) h b2 l2 c2 ys) :
    CALL prg f_slices_EqualFunc_sl_float32_sl_float32_float32_float32 #[.slice b1 l1 c1, .slice b2 l2 c2, .func (.func f_impl_SameSample) #[] #[]] (fun u h' => u = .bool (same xs ys) ∧ Ext h h') h := by
  have e1 := S1.len
  have e2 := S2.len
  have h2 := S1.2.1
  have h3 := S1.2.2.1
  have := maxLen_lt
  refine slices_EqualFunc_sl_float32_sl_float32_float32_float32.call (br (fun hb => ⟨by rw [same_len (by simp at hb; omega)], Ext.refl _⟩) fun hb => ?_)
  obtain rfl : l1 = l2 := by simp at hb; omega
  refine loop (fun x hh => ∃ n : Nat, x = (b2, l1, c2, .func (.func f_impl_SameSample) #[] #[], b1, l1, c1, (l1 : Int), (n : Int)) ∧ n ≤ l1 ∧ Ext h hh ∧ ∀ i, i < n → same xs[i]! ys[i]! = true) (fun x => (l1 - x.2.2.2.2.2.2.2.2).toNat) ⟨0, rfl, by omega, Ext.refl _, fun i hi => by omega⟩ ?_
  rintro x hh ⟨n, rfl, hn, X, hs⟩
  refine brd (fun hc => ?_) fun hc => ⟨by rw [same_all (by omega) fun i hi => hs i (by omega)], X⟩
  refine (S1.ext X).idx (by decide) (by omega) (by omega) fun a Ra => Ra.oF1 fun y hy => (S2.ext X).idx (by decide) (by omega) (by omega) fun a' Rb => Rb.oF1 fun z hz => goD X (show CALL prg f_impl_SameSample #[.float .f32 y, .float .f32 z] _ hh from SameSample_c hy hz _) fun h8 x8 => as_b (br (fun hb => ⟨?_, x8⟩) fun hb => ?_)
  · have hb := nt hb
    rw [same_nat] at hb
    rw [same_at hb]
  · have hb := nf hb
    rw [same_nat] at hb
    refine ⟨⟨n + 1, by rw [wrap64_succ (by omega)], by omega, x8, fun i hi => ?_⟩, by rw [wrap64_succ (by omega)]; show _ < _; simp; omega⟩
    by_cases e : i = n
    · subst e; exact hb
    · exact hs i (by omega)
theorem sameSamples_c {b1 b2 : Option Addr} {l1 c1 l2 c2 : Nat} {xs ys : List Nat} (S1 : SlR (rF .f32) h b1 l1 c1 xs) (S2 : SlR (rF .f32) h b2 l2 c2 ys) :
    CALL prg f_impl_sameSamples #[.slice b1 l1 c1, .slice b2 l2 c2] (fun u h' => u = .bool (same xs ys) ∧ Ext h h') h := impl_sameSamples.call (goX (EqualFunc_f32_c S1 S2) fun h' x => as_b ⟨rfl, x⟩)
theorem SameRing_c {ca cb : Array Value} {x y : GRing} (Ra : rRing.rd h ca.toList x) (Rb : rRing.rd h cb.toList y) : CALL prg f_impl_SameRing #[.agg ca, .agg cb] (fun u h' => u = .bool (same x y) ∧ Ext h h') h := by
  refine impl_SameRing.call (alcR Ra fun g1 h1 x1 A => alcR (rRing.ext x1 Rb) fun g2 h2 x2 B0 => ?_)
  have A0 := A.ext x2
  have X0 := x1.trans x2
  have E0 := Ext.refl h2
  have A : ∀ {hh : Heap}, Ext h2 hh → RdP rRing hh ⟨g1, 0, none⟩ x := fun e => A0.ext e
  have B : ∀ {hh : Heap}, Ext h2 hh → RdP rRing hh ⟨g2, 0, none⟩ y := fun e => B0.ext e
  (repeat' (first
    | exact (Bool.false_ne_true hb).elim
    | refine as_b ?_
    | refine pin_same ?_
    | refine RdP.oL2 (A (by assumption)) fun _ _ _ _ => ?_
    | refine RdP.oI2 (A (by assumption)) ?_
    | refine RdP.oL2 (B (by assumption)) fun _ _ _ _ => ?_
    | refine RdP.oI2 (B (by assumption)) ?_
    | refine RdP.lda1 (A (by assumption)) rfl fun _ _ => ?_
    | refine RdP.lda1 (B (by assumption)) rfl fun _ _ => ?_
    | refine goE (by assumption) (sameSamples_c (by assumption) (by assumption)) fun _ _ => ?_
    | refine brN (fun hb => ?_) (fun hb => ?_)
    | refine br (fun hb => ?_) (fun hb => ?_)
    | exact ⟨by rw [same_Ring]; simp [*], X0.trans (by assumption)⟩))
theorem SameFilter_c {ca cb : Array Value} {x y : GFilter} (Ra : rFilter.rd h ca.toList x) (Rb : rFilter.rd h cb.toList y) : CALL prg f_impl_SameFilter #[.agg ca, .agg cb] (fun u h' => u = .bool (same x y) ∧ Ext h h') h := by
  refine impl_SameFilter.call (alcR Ra fun g1 h1 x1 A => alcR (rFilter.ext x1 Rb) fun g2 h2 x2 B0 => ?_)
  have A0 := A.ext x2
  have X0 := x1.trans x2
  have E0 := Ext.refl h2
  have A : ∀ {hh : Heap}, Ext h2 hh → RdP rFilter hh ⟨g1, 0, none⟩ x := fun e => A0.ext e
  have B : ∀ {hh : Heap}, Ext h2 hh → RdP rFilter hh ⟨g2, 0, none⟩ y := fun e => B0.ext e
  have SxC : ∀ {hh : Heap}, Ext h2 hh → SlR (rF .f32) hh (some (slP ⟨g1, 1, none⟩ 3 0 1)) (3 - 0) (3 - 0) x.C := fun e => by rw [slP_zero]; exact ((A e).foc0 foc_Filter_C).arr (by decide)
  have SxS : ∀ {hh : Heap}, Ext h2 hh → SlR (rF .f32) hh (some (slP ⟨g1, 4, none⟩ 2 0 1)) (2 - 0) (2 - 0) x.S := fun e => by rw [slP_zero]; exact ((A e).foc0 foc_Filter_S).arr (by decide)
  have SyC : ∀ {hh : Heap}, Ext h2 hh → SlR (rF .f32) hh (some (slP ⟨g2, 1, none⟩ 3 0 1)) (3 - 0) (3 - 0) y.C := fun e => by rw [slP_zero]; exact ((B e).foc0 foc_Filter_C).arr (by decide)
  have SyS : ∀ {hh : Heap}, Ext h2 hh → SlR (rF .f32) hh (some (slP ⟨g2, 4, none⟩ 2 0 1)) (2 - 0) (2 - 0) y.S := fun e => by rw [slP_zero]; exact ((B e).foc0 foc_Filter_S).arr (by decide)
  (repeat' (first
    | refine slb (by decide) (by decide) (by decide) ?_
    | exact (Bool.false_ne_true hb).elim
    | refine as_b ?_
    | refine pin_same ?_
    | refine RdP.oI2 (A (by assumption)) ?_
    | refine RdP.lda2 (A (by assumption)) foc_Filter_C rfl fun _ _ => ?_
    | refine RdP.lda2 (A (by assumption)) foc_Filter_S rfl fun _ _ => ?_
    | refine RdP.oI2 (B (by assumption)) ?_
    | refine RdP.lda2 (B (by assumption)) foc_Filter_C rfl fun _ _ => ?_
    | refine RdP.lda2 (B (by assumption)) foc_Filter_S rfl fun _ _ => ?_
    | refine RdP.lda1 (A (by assumption)) rfl fun _ _ => ?_
    | refine RdP.lda1 (B (by assumption)) rfl fun _ _ => ?_
    | refine goE (by assumption) (sameSamples_c (SxC (by assumption)) (SyC (by assumption))) fun _ _ => ?_
    | refine goE (by assumption) (sameSamples_c (SxS (by assumption)) (SyS (by assumption))) fun _ _ => ?_
    | refine brN (fun hb => ?_) (fun hb => ?_)
    | refine br (fun hb => ?_) (fun hb => ?_)
    | exact ⟨by rw [same_Filter]; simp [*], X0.trans (by assumption)⟩))
end
end Go.Sx
/- The program's comparisons of scores and voices. -/
set_option linter.unusedVariables false
set_option linter.unusedSimpArgs false
namespace Go.Sx
open Go.Proofs
set_option maxRecDepth 100000
set_option maxHeartbeats 1000000

section
variable {h : Heap}
theorem SameString_c {ca cb : Array Value} {x y : GString} (Ra : rString.rd h ca.toList x) (Rb : rString.rd h cb.toList y) : CALL prg f_impl_SameString #[.agg ca, .agg cb] (fun u h' => u = .bool (same x y) ∧ Ext h h') h := by
  refine impl_SameString.call (alcR Ra fun g1 h1 x1 A => alcR (rString.ext x1 Rb) fun g2 h2 x2 B0 => ?_)
  have A0 := A.ext x2
  have X0 := x1.trans x2
  have E0 := Ext.refl h2
  have A : ∀ {hh : Heap}, Ext h2 hh → RdP rString hh ⟨g1, 0, none⟩ x := fun e => A0.ext e
  have B : ∀ {hh : Heap}, Ext h2 hh → RdP rString hh ⟨g2, 0, none⟩ y := fun e => B0.ext e
  (repeat' (first
    | exact (Bool.false_ne_true hb).elim
    | refine as_b ?_
    | refine pin_same ?_
    | refine RdP.lda2 (A (by assumption)) foc_String_Loop rfl fun _ _ => ?_
    | refine RdP.lda2 (A (by assumption)) foc_String_Tune rfl fun _ _ => ?_
    | refine RdP.lda2 (A (by assumption)) foc_String_Damp rfl fun _ _ => ?_
    | refine RdP.oF2 (A (by assumption)) fun _ _ => ?_
    | refine RdP.lda2 (B (by assumption)) foc_String_Loop rfl fun _ _ => ?_
    | refine RdP.lda2 (B (by assumption)) foc_String_Tune rfl fun _ _ => ?_
    | refine RdP.lda2 (B (by assumption)) foc_String_Damp rfl fun _ _ => ?_
    | refine RdP.oF2 (B (by assumption)) fun _ _ => ?_
    | refine RdP.lda1 (A (by assumption)) rfl fun _ _ => ?_
    | refine RdP.lda1 (B (by assumption)) rfl fun _ _ => ?_
    | refine goE (by assumption) (SameSample_c (by assumption) (by assumption) _) fun _ _ => ?_
    | refine goE (by assumption) (SameRing_c (by assumption) (by assumption)) fun _ _ => ?_
    | refine goE (by assumption) (SameFilter_c (by assumption) (by assumption)) fun _ _ => ?_
    | refine brN (fun hb => ?_) (fun hb => ?_)
    | refine br (fun hb => ?_) (fun hb => ?_)
    | exact ⟨by rw [same_String]; simp [*], X0.trans (by assumption)⟩))
end
end Go.Sx
/- The rule's comparisons of rings, filters, strings, pipes. -/
set_option linter.unusedVariables false
set_option linter.unusedSimpArgs false
namespace Go.Sx
open Go.Proofs
set_option maxRecDepth 100000
set_option maxHeartbeats 1000000

section
variable {h : Heap}
theorem l02SameList_c {b1 b2 : Option Addr} {l1 c1 l2 c2 : Nat} {xs ys : List Nat} (S1 : SlR (rF .f32) h b1 l1 c1 xs) (S2 : SlR (rF .f32) h b2 l2 c2 ys) :
    CALL prg f_spec_l02SameList #[.slice b1 l1 c1, .slice b2 l2 c2] (fun u h' => u = .bool (same xs ys) ∧ Ext h h') h := by
  have e1 := S1.len
  have e2 := S2.len
  have h2 := S1.2.1
  have h3 := S1.2.2.1
  have := maxLen_lt
  refine spec_l02SameList.call (br (fun hb => ⟨by rw [same_len (by simp at hb; omega)], Ext.refl _⟩) fun hb => ?_)
  obtain rfl : l1 = l2 := by simp at hb; omega
  refine loop (fun x hh => ∃ n : Nat, x = (b1, l1, c1, b2, l1, c2, (n : Int)) ∧ n ≤ l1 ∧ Ext h hh ∧ ∀ i, i < n → same xs[i]! ys[i]! = true) (fun x => (l1 - x.2.2.2.2.2.2).toNat) ⟨0, rfl, by omega, Ext.refl _, fun i hi => by omega⟩ ?_
  rintro x hh ⟨n, rfl, hn, X, hs⟩
  refine brd (fun hc => ?_) fun hc => ⟨by rw [same_all (by omega) fun i hi => hs i (by omega)], X⟩
  refine (S1.ext X).idx (by decide) (by omega) (by omega) fun a Ra => Ra.oF1 fun y hy => (S2.ext X).idx (by decide) (by omega) (by omega) fun a' Rb => Rb.oF1 fun z hz => goE X (l01Same_c hy hz _) fun h8 x8 => as_b (br (fun hb => ⟨?_, x8⟩) fun hb => ?_)
  · have hb := nt hb
    rw [same_nat] at hb
    rw [same_at hb]
  · have hb := nf hb
    rw [same_nat] at hb
    refine ⟨⟨n + 1, by rw [wrap64_succ (by omega)], by omega, x8, fun i hi => ?_⟩, by rw [wrap64_succ (by omega)]; show _ < _; simp; omega⟩
    by_cases e : i = n
    · subst e; exact hb
    · exact hs i (by omega)
theorem l02Same_c {p q : Addr} {x y : GFilter} (A0 : RdP rFilter h p x) (B0 : RdP rFilter h q y) : CALL prg f_spec_l02Same #[.pointer (some p), .pointer (some q)] (fun u h' => u = .bool (same x y) ∧ Ext h h') h := by
  have hC := (A0.foc foc_Filter_C).len
  have hC' := (B0.foc foc_Filter_C).len
  have hS := same_S2 (A0.foc foc_Filter_S).len (B0.foc foc_Filter_S).len
  refine spec_l02Same.call (A0.oI1 (B0.oI1 (br (fun hb => ⟨by rw [same_Filter, show (x.Kind == y.Kind) = false from nt hb]; rfl, Ext.refl _⟩) fun hk => ?_)))
  have hk : (x.Kind == y.Kind) = true := nf hk
  refine loop (fun z hh => ∃ n : Nat, z = (p, q, (n : Int)) ∧ n ≤ 3 ∧ Ext h hh ∧ ∀ i, i < n → same x.C[i]! y.C[i]! = true) (fun z => (3 - z.2.2).toNat) ⟨0, rfl, by omega, Ext.refl _, fun i hi => by omega⟩ ?_
  rintro z hh ⟨n, rfl, hn, X, hs⟩
  refine brd (fun hc => ?_) fun hc => ?_
  · refine idx (by omega) (by omega) ((((A0.ext X).foc foc_Filter_C).elem (i := n) (by omega)).oF1 fun a ha => idx (by omega) (by omega) ((((B0.ext X).foc foc_Filter_C).elem (i := n) (by omega)).oF1 fun b hb => goE X (l01Same_c ha hb _) fun h8 x8 => as_b (br (fun hb => ⟨?_, x8⟩) fun hb => ?_)))
    · have hb := nt hb
      rw [same_nat] at hb
      rw [same_Filter, same_at hb, Bool.and_false, Bool.false_and]
    · have hb := nf hb
      rw [same_nat] at hb
      refine ⟨⟨n + 1, by rw [wrap64_succ (by omega)], by omega, x8, fun i hi => ?_⟩, by rw [wrap64_succ (by omega)]; show _ < _; simp; omega⟩
      by_cases e : i = n
      · subst e; exact hb
      · exact hs i (by omega)
  · have hCC : same x.C y.C = true := same_all (by omega) fun i hi => hs i (by omega)
    refine idx (by omega) (by omega) ((A0.ext X).oF fun a ha => idx (by omega) (by omega) ((B0.ext X).oF fun b hb => goE X (l01Same_c ha hb _) fun h8 x8 => as_b (br (fun hz => ?_) fun hz => ⟨?_, x8⟩)))
    · refine idx (by omega) (by omega) ((A0.ext x8).oF fun a ha => idx (by omega) (by omega) ((B0.ext x8).oF fun b hb => goE x8 (l01Same_c ha hb _) fun h9 x9 => as_b ⟨?_, x9⟩))
      rw [same_Filter, hk, hCC, hS, hz]; rfl
    · rw [same_Filter, hk, hCC, hS, hz]; rfl
theorem spec_SameRing_c {ca cb : Array Value} {x y : GRing} (Ra : rRing.rd h ca.toList x) (Rb : rRing.rd h cb.toList y) : CALL prg f_spec_SameRing #[.agg ca, .agg cb] (fun u h' => u = .bool (same x y) ∧ Ext h h') h := by
  refine spec_SameRing.call (alcR Ra fun g1 h1 x1 A => alcR (rRing.ext x1 Rb) fun g2 h2 x2 B0 => ?_)
  have A0 := A.ext x2
  have X0 := x1.trans x2
  have E0 := Ext.refl h2
  have A : ∀ {hh : Heap}, Ext h2 hh → RdP rRing hh ⟨g1, 0, none⟩ x := fun e => A0.ext e
  have B : ∀ {hh : Heap}, Ext h2 hh → RdP rRing hh ⟨g2, 0, none⟩ y := fun e => B0.ext e
  (repeat' (first
    | exact (Bool.false_ne_true hb).elim
    | refine as_b ?_
    | refine pin_same ?_
    | refine RdP.oL2 (A (by assumption)) fun _ _ _ _ => ?_
    | refine RdP.oI2 (A (by assumption)) ?_
    | refine RdP.oL2 (B (by assumption)) fun _ _ _ _ => ?_
    | refine RdP.oI2 (B (by assumption)) ?_
    | refine RdP.lda1 (A (by assumption)) rfl fun _ _ => ?_
    | refine RdP.lda1 (B (by assumption)) rfl fun _ _ => ?_
    | refine goE (by assumption) (l02SameList_c (by assumption) (by assumption)) fun _ _ => ?_
    | refine brN (fun hb => ?_) (fun hb => ?_)
    | refine br (fun hb => ?_) (fun hb => ?_)
    | exact ⟨by rw [same_Ring]; simp [*], X0.trans (by assumption)⟩))
theorem spec_SameString_c {ca cb : Array Value} {x y : GString} (Ra : rString.rd h ca.toList x) (Rb : rString.rd h cb.toList y) : CALL prg f_spec_SameString #[.agg ca, .agg cb] (fun u h' => u = .bool (same x y) ∧ Ext h h') h := by
  refine spec_SameString.call (alcR Ra fun g1 h1 x1 A => alcR (rString.ext x1 Rb) fun g2 h2 x2 B0 => ?_)
  have A0 := A.ext x2
  have X0 := x1.trans x2
  have E0 := Ext.refl h2
  have A : ∀ {hh : Heap}, Ext h2 hh → RdP rString hh ⟨g1, 0, none⟩ x := fun e => A0.ext e
  have B : ∀ {hh : Heap}, Ext h2 hh → RdP rString hh ⟨g2, 0, none⟩ y := fun e => B0.ext e
  (repeat' (first
    | exact (Bool.false_ne_true hb).elim
    | refine as_b ?_
    | refine pin_same ?_
    | refine RdP.lda2 (A (by assumption)) foc_String_Loop rfl fun _ _ => ?_
    | refine RdP.lda2 (A (by assumption)) foc_String_Tune rfl fun _ _ => ?_
    | refine RdP.lda2 (A (by assumption)) foc_String_Damp rfl fun _ _ => ?_
    | refine RdP.oF2 (A (by assumption)) fun _ _ => ?_
    | refine RdP.lda2 (B (by assumption)) foc_String_Loop rfl fun _ _ => ?_
    | refine RdP.lda2 (B (by assumption)) foc_String_Tune rfl fun _ _ => ?_
    | refine RdP.lda2 (B (by assumption)) foc_String_Damp rfl fun _ _ => ?_
    | refine RdP.oF2 (B (by assumption)) fun _ _ => ?_
    | refine RdP.lda1 (A (by assumption)) rfl fun _ _ => ?_
    | refine RdP.lda1 (B (by assumption)) rfl fun _ _ => ?_
    | refine goE (by assumption) (l01Same_c (by assumption) (by assumption) _) fun _ _ => ?_
    | refine goE (by assumption) (spec_SameRing_c (by assumption) (by assumption)) fun _ _ => ?_
    | refine goE (by assumption) (l02Same_c ((A (by assumption)).foc0 foc_String_Tune) ((B (by assumption)).foc0 foc_String_Tune)) fun _ _ => ?_
    | refine goE (by assumption) (l02Same_c ((A (by assumption)).foc0 foc_String_Damp) ((B (by assumption)).foc0 foc_String_Damp)) fun _ _ => ?_
    | refine brN (fun hb => ?_) (fun hb => ?_)
    | refine br (fun hb => ?_) (fun hb => ?_)
    | exact ⟨by rw [same_String]; simp [*], X0.trans (by assumption)⟩))
end
end Go.Sx
/- What functions of this seat's program compute, told in words (a predicate over heaps for each), and the proofs that the words are no more than the code's own weakest precondition. -/
namespace Go.Sx
open Go.Proofs
set_option linter.unusedVariables false
set_option maxRecDepth 100000

def impl_ValidString.S (x_0 : Array Value) (Post : Value → Heap → Prop) (h : Heap) : Prop :=
    ALC x_0 T_impl_String (fun g1 h2 =>
    LDA 2 h2 ⟨g1, 0, none⟩ fun a3 =>
    CALL prg f_impl_ValidRing #[.agg a3] (fun q4 h5 =>
    asB q4 fun b6 =>
    BIF b6 (
    LDA 6 h5 ⟨g1, 2, none⟩ fun a7 =>
    CALL prg f_impl_isFilter #[.agg a7, .int .i64 (3 : Int)] (fun q8 h9 =>
    asB q8 fun b10 =>
    BIF b10 (
    LDA 6 h9 ⟨g1, 8, none⟩ fun a11 =>
    CALL prg f_impl_isFilter #[.agg a11, .int .i64 (2 : Int)] (fun q12 h13 =>
    asB q12 fun b14 =>
    BIF b14 (
    oF .f32 (cell h13 ⟨g1, 14, none⟩) fun r15 =>
    CALL prg f_impl_isFinite #[.float .f32 r15] (fun q16 h17 =>
    asB q16 fun b18 =>
    Post (.bool b18) h17) h13) (
    Post (.bool false) h13)) h9) (
    Post (.bool false) h9)) h5) (
    Post (.bool false) h5)) h2) h
noncomputable def impl_ValidString.code : Code := (Tryz.f23.body).getD .skip
theorem impl_ValidString.call {x_0 : Array Value} {Post : Value → Heap → Prop} {h : Heap} (H : impl_ValidString.S x_0 Post h) : CALL prg f_impl_ValidString #[.agg x_0] Post h :=
  fn_call tau_ok mixed (c := impl_ValidString.code) (Λ := lookL []) Tryz.func23 (by kernel_rfl) (by kernel_rfl)
    (Rq.free (by kernel_rfl))
    (Eq.mp (by kernel_rfl) H)

end Go.Sx
/- Bodies of voices: none there, or good ones. -/
set_option linter.unusedVariables false
set_option linter.unusedSimpArgs false
namespace Go.Sx
open Go.Proofs
set_option maxRecDepth 100000
set_option maxHeartbeats 1000000

theorem alcE {α : Type} {r : Rep α} {h0 h : Heap} {x : α} {cs : Array Value} {T : Nat} {F : Nat → Heap → Prop} (E : Ext h0 h) (R : r.rd h cs.toList x) (H : ∀ g h', Ext h0 h' → RdP r h' ⟨g, 0, none⟩ x → F g h') : ALC cs T F h :=
  alcR R fun g h' x' R' => H g h' (E.trans x') R'
section
variable {h : Heap} {q : Addr}
def GString.ok (x : GString) : Bool := x.Loop.ok && (x.Tune.ok && x.Tune.Kind == 3) && (x.Damp.ok && x.Damp.Kind == 2) && fin x.Loss
def GBow.ok (x : GBow) : Bool := x.Neck.okf && x.Bridge.okf && (x.Damp.ok && x.Damp.Kind == 1) && (fin x.Slope && fin x.Loss)
theorem ValidString_c {cs : Array Value} {x : GString} (R0 : rString.rd h cs.toList x) : CALL prg f_impl_ValidString #[.agg cs] (fun u h' => u = .bool x.ok ∧ Ext h h') h := by
  refine impl_ValidString.call (alcE (Ext.refl h) R0 fun g h0 x0 R => ?_)
  have A : ∀ {hh : Heap}, Ext h0 hh → RdP rString hh ⟨g, 0, none⟩ x := fun e => R.ext e
  refine R.lda2 foc_String_Loop rfl fun c1 R1 => goX (ValidRing_c R1) fun h1 x1 => as_b (br (fun k1 => ?_) fun k1 => ⟨by rw [GString.ok, k1]; rfl, x0.trans x1⟩)
  refine (A x1).lda2 foc_String_Tune rfl fun c2 R2 => goE x1 (isFilter_c R2 _) fun h2 x2 => as_b (br (fun k2 => ?_) fun k2 => ⟨by rw [GString.ok, k2]; simp, x0.trans x2⟩)
  refine (A x2).lda2 foc_String_Damp rfl fun c3 R3 => goE x2 (isFilter_c R3 _) fun h3 x3 => as_b (br (fun k3 => ?_) fun k3 => ⟨by rw [GString.ok, k3]; simp, x0.trans x3⟩)
  exact (A x3).oF2 fun y hy => goE x3 (isFinite_c hy _) fun h4 x4 => as_b ⟨by rw [GString.ok, k1, k2, k3]; rfl, x0.trans x4⟩
end
end Go.Sx
/- Voices: the rule's and the program's. -/
set_option linter.unusedVariables false
set_option linter.unusedSimpArgs false
namespace Go.Sx
open Go.Proofs
set_option maxRecDepth 100000
set_option maxHeartbeats 2000000

noncomputable def freeOk (v : GVoice) : Bool := same v.String z_String && same v.Pipe z_Pipe && same v.Bow z_Bow && (v.Instrument == 0) && (v.Born == 0) && !v.Gone && (v.Drive == 0)
noncomputable def bodyOk (s : GScore) (v : GVoice) : Bool :=
  if s.Instruments[v.Instrument.toNat]!.Kind = 1 then v.String.ok && same v.Pipe z_Pipe && same v.Bow z_Bow else if s.Instruments[v.Instrument.toNat]!.Kind = 2 then same v.String z_String && v.Pipe.ok && same v.Bow z_Bow else same v.String z_String && same v.Pipe z_Pipe && v.Bow.ok
noncomputable def voiceOk (s : GScore) (v : GVoice) : Bool := if v.Note = -1 then freeOk v else match startEv s.Events v.Note with | none => false | some e => (e.Instrument == v.Instrument) && (e.At == v.Born) && fin v.Drive && bodyOk s v
theorem first_cases {α : Type} [Inhabited α] (p : α → Bool) (l : List α) : (firstAt p l = -1 ∧ ∀ i, i < l.length → p l[i]! = false) ∨ ∃ n : Nat, n < l.length ∧ firstAt p l = n ∧ (∀ i, i < n → p l[i]! = false) ∧ p l[n]! = true := by
  unfold firstAt
  by_cases h : l.any p = true
  · rw [if_pos h]
    obtain ⟨x, hx, hp⟩ := List.any_eq_true.1 h
    have hlt : l.findIdx p < l.length := List.findIdx_lt_length_of_exists ⟨x, hx, hp⟩
    refine .inr ⟨l.findIdx p, hlt, rfl, fun i hi => ?_, ?_⟩
    · rw [getElem!_pos l i (by omega)]
      have := List.not_of_lt_findIdx hi
      simpa using this
    · rw [getElem!_pos l _ hlt]
      exact List.findIdx_getElem (w := hlt)
  · rw [if_neg h]
    refine .inl ⟨rfl, fun i hi => ?_⟩
    rw [getElem!_pos l i hi]
    rw [Bool.not_eq_true, List.any_eq_false] at h
    have := h _ (List.getElem_mem hi)
    simpa using this
theorem score_ev {s : GScore} (h : s.ok = true) : EvGood s.Events s.Instruments.length := by
  unfold GScore.ok at h
  rw [Bool.and_eq_true] at h
  exact evOk_iff.1 h.2
section
variable {h : Heap}
theorem flat_Event : Flat rEvent := flat_via (flat_seq (flat_I _) (flat_seq (flat_I _) (flat_seq (flat_I _) (flat_seq (flat_I _) (flat_seq (flat_I _) (flat_F _))))))
/-- What a search for a note's start answers. -/
def StartR (h : Heap) (es : List GEvent) (n : Int) (u : Value) : Prop := ∃ cs : Array Value, u = .tuple ⟨[.agg cs, .bool (startEv es n).isSome]⟩ ∧ rEvent.rd h cs.toList ((startEv es n).getD z_Event)
theorem StartR.no {es : List GEvent} {n : Int} (e : startEv es n = none) : StartR h es n (.tuple ⟨[.agg ⟨[.int .i64 (0 : Int), .int .i64 (0 : Int), .int .i64 (0 : Int), .int .i64 (0 : Int), .int .i64 (0 : Int), .float .f32 0]⟩, .bool false]⟩) :=
  ⟨_, by rw [e]; rfl, by rw [e]; exact rEvent.look zow_Event (Mem.start h) (List.nil_sublist _)⟩
theorem StartR.yes {es : List GEvent} {n : Int} {e : GEvent} {cs : Array Value} {h0 : Heap} (he : startEv es n = some e) (R : rEvent.rd h0 cs.toList e) : StartR h es n (.tuple ⟨[.agg cs, .bool true]⟩) :=
  ⟨cs, by rw [he]; rfl, by rw [he]; exact rEvent.look (flat_Event _ _ _ R) (Mem.start h) (List.nil_sublist _)⟩
end
end Go.Sx
