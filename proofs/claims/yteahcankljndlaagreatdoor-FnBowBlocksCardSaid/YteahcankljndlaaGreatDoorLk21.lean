/- The program's comparisons of rings, filters, tunings. -/
import Derived.Test.YteahcankljndlaaGreatDoorLr6
import Derived.Test.YteahcankljndlaaGreatDoorK4
import Derived.Test.YteahcankljndlaaGreatDoorTab
import Derived.Test.YteahcankljndlaaGreatDoorLgn
import Derived.Test.YteahcankljndlaaGreatDoorLs1
import Derived.Test.YteahcankljndlaaGreatDoorLf8
import Derived.Test.YteahcankljndlaaGreatDoorLk1
set_option linter.unusedVariables false
set_option linter.unusedSimpArgs false
namespace Go.Sx
open Go.Proofs
set_option maxRecDepth 100000
set_option maxHeartbeats 1000000

section
variable {h : Heap}
theorem EqualFunc_f32_c {b1 b2 : Option Addr} {l1 c1 l2 c2 : Nat} {xs ys : List Nat} (S1 : SlR (rF .f32) h b1 l1 c1 xs) (S2 : SlR (rF .f32) h b2 l2 c2 ys) :
    CALL prg f_slices_EqualFunc_sl_float32_sl_float32_float32_float32 #[.slice b1 l1 c1, .slice b2 l2 c2, .func (.func f_impl_SameSample) #[] #[]] (fun u h' => u = .bool (same xs ys) ∧ Ext h h') h := by
  have e1 := S1.len
  have e2 := S2.len
  have h2 := S1.2.1
  have h3 := S1.2.2.1
  have := maxLen_lt
  refine slices_EqualFunc_sl_float32_sl_float32_float32_float32.call (br (fun hb => ⟨by rw [same_len (by simp at hb; omega)], Ext.refl _⟩) fun hb => ?_)
  obtain rfl : l1 = l2 := by simp at hb; omega
  refine loop (fun x hh => ∃ n : Nat, x = (b2, l1, c2, .func (.func f_impl_SameSample) #[] #[], b1, l1, c1, (l1 : Int), (n : Int)) ∧ n ≤ l1 ∧ Ext h hh ∧ ∀ i, i < n → same xs[i]! ys[i]! = true) (fun x => (l1 - x.2.2.2.2.2.2.2.2).toNat) ⟨0, rfl, by omega, Ext.refl _, fun i hi => by omega⟩ ?_
  rintro x hh ⟨n, rfl, hn, X, hs⟩
  refine brd (fun hc => ?_) fun hc => ⟨by rw [same_all (by omega) fun i hi => hs i (by omega)], X⟩
  refine (S1.ext X).idx (by decide) (by omega) (by omega) fun a Ra => Ra.oF1 fun y hy => (S2.ext X).idx (by decide) (by omega) (by omega) fun a' Rb => Rb.oF1 fun z hz => goD X (show CALL prg f_impl_SameSample #[.float .f32 y, .float .f32 z] _ hh from SameSample_c hy hz _) fun h8 x8 => as_b (br (fun hb => ⟨?_, x8⟩) fun hb => ?_)
  · have hb := nt hb
    rw [same_nat] at hb
    rw [same_at hb]
  · have hb := nf hb
    rw [same_nat] at hb
    refine ⟨⟨n + 1, by rw [wrap64_succ (by omega)], by omega, x8, fun i hi => ?_⟩, by rw [wrap64_succ (by omega)]; show _ < _; simp; omega⟩
    by_cases e : i = n
    · subst e; exact hb
    · exact hs i (by omega)
theorem sameSamples_c {b1 b2 : Option Addr} {l1 c1 l2 c2 : Nat} {xs ys : List Nat} (S1 : SlR (rF .f32) h b1 l1 c1 xs) (S2 : SlR (rF .f32) h b2 l2 c2 ys) :
    CALL prg f_impl_sameSamples #[.slice b1 l1 c1, .slice b2 l2 c2] (fun u h' => u = .bool (same xs ys) ∧ Ext h h') h := impl_sameSamples.call (goX (EqualFunc_f32_c S1 S2) fun h' x => as_b ⟨rfl, x⟩)
theorem SameRing_c {ca cb : Array Value} {x y : GRing} (Ra : rRing.rd h ca.toList x) (Rb : rRing.rd h cb.toList y) : CALL prg f_impl_SameRing #[.agg ca, .agg cb] (fun u h' => u = .bool (same x y) ∧ Ext h h') h := by
  refine impl_SameRing.call (alcR Ra fun g1 h1 x1 A => alcR (rRing.ext x1 Rb) fun g2 h2 x2 B0 => ?_)
  have A0 := A.ext x2
  have X0 := x1.trans x2
  have E0 := Ext.refl h2
  have A : ∀ {hh : Heap}, Ext h2 hh → RdP rRing hh ⟨g1, 0, none⟩ x := fun e => A0.ext e
  have B : ∀ {hh : Heap}, Ext h2 hh → RdP rRing hh ⟨g2, 0, none⟩ y := fun e => B0.ext e
  (repeat' (first
    | exact (Bool.false_ne_true hb).elim
    | refine as_b ?_
    | refine pin_same ?_
    | refine RdP.oL2 (A (by assumption)) fun _ _ _ _ => ?_
    | refine RdP.oI2 (A (by assumption)) ?_
    | refine RdP.oL2 (B (by assumption)) fun _ _ _ _ => ?_
    | refine RdP.oI2 (B (by assumption)) ?_
    | refine RdP.lda1 (A (by assumption)) rfl fun _ _ => ?_
    | refine RdP.lda1 (B (by assumption)) rfl fun _ _ => ?_
    | refine goE (by assumption) (sameSamples_c (by assumption) (by assumption)) fun _ _ => ?_
    | refine brN (fun hb => ?_) (fun hb => ?_)
    | refine br (fun hb => ?_) (fun hb => ?_)
    | exact ⟨by rw [same_Ring]; simp [*], X0.trans (by assumption)⟩))
theorem SameFilter_c {ca cb : Array Value} {x y : GFilter} (Ra : rFilter.rd h ca.toList x) (Rb : rFilter.rd h cb.toList y) : CALL prg f_impl_SameFilter #[.agg ca, .agg cb] (fun u h' => u = .bool (same x y) ∧ Ext h h') h := by
  refine impl_SameFilter.call (alcR Ra fun g1 h1 x1 A => alcR (rFilter.ext x1 Rb) fun g2 h2 x2 B0 => ?_)
  have A0 := A.ext x2
  have X0 := x1.trans x2
  have E0 := Ext.refl h2
  have A : ∀ {hh : Heap}, Ext h2 hh → RdP rFilter hh ⟨g1, 0, none⟩ x := fun e => A0.ext e
  have B : ∀ {hh : Heap}, Ext h2 hh → RdP rFilter hh ⟨g2, 0, none⟩ y := fun e => B0.ext e
  have SxC : ∀ {hh : Heap}, Ext h2 hh → SlR (rF .f32) hh (some (slP ⟨g1, 1, none⟩ 3 0 1)) (3 - 0) (3 - 0) x.C := fun e => by rw [slP_zero]; exact ((A e).foc0 foc_Filter_C).arr (by decide)
  have SxS : ∀ {hh : Heap}, Ext h2 hh → SlR (rF .f32) hh (some (slP ⟨g1, 4, none⟩ 2 0 1)) (2 - 0) (2 - 0) x.S := fun e => by rw [slP_zero]; exact ((A e).foc0 foc_Filter_S).arr (by decide)
  have SyC : ∀ {hh : Heap}, Ext h2 hh → SlR (rF .f32) hh (some (slP ⟨g2, 1, none⟩ 3 0 1)) (3 - 0) (3 - 0) y.C := fun e => by rw [slP_zero]; exact ((B e).foc0 foc_Filter_C).arr (by decide)
  have SyS : ∀ {hh : Heap}, Ext h2 hh → SlR (rF .f32) hh (some (slP ⟨g2, 4, none⟩ 2 0 1)) (2 - 0) (2 - 0) y.S := fun e => by rw [slP_zero]; exact ((B e).foc0 foc_Filter_S).arr (by decide)
  (repeat' (first
    | refine slb (by decide) (by decide) (by decide) ?_
    | exact (Bool.false_ne_true hb).elim
    | refine as_b ?_
    | refine pin_same ?_
    | refine RdP.oI2 (A (by assumption)) ?_
    | refine RdP.lda2 (A (by assumption)) foc_Filter_C rfl fun _ _ => ?_
    | refine RdP.lda2 (A (by assumption)) foc_Filter_S rfl fun _ _ => ?_
    | refine RdP.oI2 (B (by assumption)) ?_
    | refine RdP.lda2 (B (by assumption)) foc_Filter_C rfl fun _ _ => ?_
    | refine RdP.lda2 (B (by assumption)) foc_Filter_S rfl fun _ _ => ?_
    | refine RdP.lda1 (A (by assumption)) rfl fun _ _ => ?_
    | refine RdP.lda1 (B (by assumption)) rfl fun _ _ => ?_
    | refine goE (by assumption) (sameSamples_c (SxC (by assumption)) (SyC (by assumption))) fun _ _ => ?_
    | refine goE (by assumption) (sameSamples_c (SxS (by assumption)) (SyS (by assumption))) fun _ _ => ?_
    | refine brN (fun hb => ?_) (fun hb => ?_)
    | refine br (fun hb => ?_) (fun hb => ?_)
    | exact ⟨by rw [same_Filter]; simp [*], X0.trans (by assumption)⟩))
end
end Go.Sx
/- The program's comparisons of scores and voices. -/
set_option linter.unusedVariables false
set_option linter.unusedSimpArgs false
namespace Go.Sx
open Go.Proofs
set_option maxRecDepth 100000
set_option maxHeartbeats 1000000

section
variable {h : Heap}
theorem SameBow_c {ca cb : Array Value} {x y : GBow} (Ra : rBow.rd h ca.toList x) (Rb : rBow.rd h cb.toList y) : CALL prg f_impl_SameBow #[.agg ca, .agg cb] (fun u h' => u = .bool (same x y) ∧ Ext h h') h := by
  refine impl_SameBow.call (alcR Ra fun g1 h1 x1 A => alcR (rBow.ext x1 Rb) fun g2 h2 x2 B0 => ?_)
  have A0 := A.ext x2
  have X0 := x1.trans x2
  have E0 := Ext.refl h2
  have A : ∀ {hh : Heap}, Ext h2 hh → RdP rBow hh ⟨g1, 0, none⟩ x := fun e => A0.ext e
  have B : ∀ {hh : Heap}, Ext h2 hh → RdP rBow hh ⟨g2, 0, none⟩ y := fun e => B0.ext e
  (repeat' (first
    | exact (Bool.false_ne_true hb).elim
    | refine as_b ?_
    | refine pin_same ?_
    | refine RdP.lda2 (A (by assumption)) foc_Bow_Neck rfl fun _ _ => ?_
    | refine RdP.lda2 (A (by assumption)) foc_Bow_Bridge rfl fun _ _ => ?_
    | refine RdP.lda2 (A (by assumption)) foc_Bow_Damp rfl fun _ _ => ?_
    | refine RdP.oF2 (A (by assumption)) fun _ _ => ?_
    | refine RdP.lda2 (B (by assumption)) foc_Bow_Neck rfl fun _ _ => ?_
    | refine RdP.lda2 (B (by assumption)) foc_Bow_Bridge rfl fun _ _ => ?_
    | refine RdP.lda2 (B (by assumption)) foc_Bow_Damp rfl fun _ _ => ?_
    | refine RdP.oF2 (B (by assumption)) fun _ _ => ?_
    | refine RdP.lda1 (A (by assumption)) rfl fun _ _ => ?_
    | refine RdP.lda1 (B (by assumption)) rfl fun _ _ => ?_
    | refine goE (by assumption) (SameSample_c (by assumption) (by assumption) _) fun _ _ => ?_
    | refine goE (by assumption) (SameRing_c (by assumption) (by assumption)) fun _ _ => ?_
    | refine goE (by assumption) (SameFilter_c (by assumption) (by assumption)) fun _ _ => ?_
    | refine brN (fun hb => ?_) (fun hb => ?_)
    | refine br (fun hb => ?_) (fun hb => ?_)
    | exact ⟨by rw [same_Bow]; simp [*], X0.trans (by assumption)⟩))
end
end Go.Sx
/- The rule's comparisons of rings, filters, strings, pipes. -/
set_option linter.unusedVariables false
set_option linter.unusedSimpArgs false
namespace Go.Sx
open Go.Proofs
set_option maxRecDepth 100000
set_option maxHeartbeats 1000000

section
variable {h : Heap}
theorem l02SameList_c {b1 b2 : Option Addr} {l1 c1 l2 c2 : Nat} {xs ys : List Nat} (S1 : SlR (rF .f32) h b1 l1 c1 xs) (S2 : SlR (rF .f32) h b2 l2 c2 ys) :
    CALL prg f_spec_l02SameList #[.slice b1 l1 c1, .slice b2 l2 c2] (fun u h' => u = .bool (same xs ys) ∧ Ext h h') h := by
  have e1 := S1.len
  have e2 := S2.len
  have h2 := S1.2.1
  have h3 := S1.2.2.1
  have := maxLen_lt
  refine spec_l02SameList.call (br (fun hb => ⟨by rw [same_len (by simp at hb; omega)], Ext.refl _⟩) fun hb => ?_)
  obtain rfl : l1 = l2 := by simp at hb; omega
  refine loop (fun x hh => ∃ n : Nat, x = (b1, l1, c1, b2, l1, c2, (n : Int)) ∧ n ≤ l1 ∧ Ext h hh ∧ ∀ i, i < n → same xs[i]! ys[i]! = true) (fun x => (l1 - x.2.2.2.2.2.2).toNat) ⟨0, rfl, by omega, Ext.refl _, fun i hi => by omega⟩ ?_
  rintro x hh ⟨n, rfl, hn, X, hs⟩
  refine brd (fun hc => ?_) fun hc => ⟨by rw [same_all (by omega) fun i hi => hs i (by omega)], X⟩
  refine (S1.ext X).idx (by decide) (by omega) (by omega) fun a Ra => Ra.oF1 fun y hy => (S2.ext X).idx (by decide) (by omega) (by omega) fun a' Rb => Rb.oF1 fun z hz => goE X (l01Same_c hy hz _) fun h8 x8 => as_b (br (fun hb => ⟨?_, x8⟩) fun hb => ?_)
  · have hb := nt hb
    rw [same_nat] at hb
    rw [same_at hb]
  · have hb := nf hb
    rw [same_nat] at hb
    refine ⟨⟨n + 1, by rw [wrap64_succ (by omega)], by omega, x8, fun i hi => ?_⟩, by rw [wrap64_succ (by omega)]; show _ < _; simp; omega⟩
    by_cases e : i = n
    · subst e; exact hb
    · exact hs i (by omega)
theorem l04SameRings_c {b1 b2 : Option Addr} {l1 c1 l2 c2 : Nat} {xs ys : List GRing} (S1 : SlR rRing h b1 l1 c1 xs) (S2 : SlR rRing h b2 l2 c2 ys) :
    CALL prg f_spec_l04SameRings #[.slice b1 l1 c1, .slice b2 l2 c2] (fun u h' => u = .bool (same xs ys) ∧ Ext h h') h := by
  have e1 := S1.len
  have e2 := S2.len
  have h2 := S1.2.1
  have h3 := S1.2.2.1
  have := maxLen_lt
  refine spec_l04SameRings.call (br (fun hb => ⟨by rw [same_len (by simp at hb; omega)], Ext.refl _⟩) fun hb => ?_)
  obtain rfl : l1 = l2 := by simp at hb; omega
  refine loop (fun x hh => ∃ n : Nat, x = (b1, l1, c1, b2, l1, c2, (n : Int)) ∧ n ≤ l1 ∧ Ext h hh ∧ ∀ i, i < n → same xs[i]! ys[i]! = true) (fun x => (l1 - x.2.2.2.2.2.2).toNat) ⟨0, rfl, by omega, Ext.refl _, fun i hi => by omega⟩ ?_
  rintro x hh ⟨n, rfl, hn, X, hs⟩
  refine brd (fun hc => ?_) fun hc => ⟨by rw [same_all (by omega) fun i hi => hs i (by omega)], X⟩
  refine (S1.ext X).idx (by decide) (by omega) (by omega) fun a Ra => Ra.oI ((S2.ext X).idx (by decide) (by omega) (by omega) fun a' Rb => Rb.oI (br (fun hb => ⟨?_, X⟩) fun hb => ?_))
  · have hb : (xs[n]!.At == ys[n]!.At) = false := nt hb
    rw [same_at (i := n) (by rw [same_Ring, hb, Bool.and_false])]
  · have hb : (xs[n]!.At == ys[n]!.At) = true := nf hb
    refine (S1.ext X).idx (by decide) (by omega) (by omega) fun a Ra => Ra.oL1 fun b3 l3 c3 S3 => (S2.ext X).idx (by decide) (by omega) (by omega) fun a' Rb => Rb.oL1 fun b4 l4 c4 S4 => goE X (l02SameList_c S3 S4) fun h8 x8 => as_b (br (fun hb2 => ⟨?_, x8⟩) fun hb2 => ?_)
    · have hb2 : same xs[n]!.Samples ys[n]!.Samples = false := nt hb2
      rw [same_at (i := n) (by rw [same_Ring, hb2, Bool.false_and])]
    · have hb2 : same xs[n]!.Samples ys[n]!.Samples = true := nf hb2
      refine ⟨⟨n + 1, by rw [wrap64_succ (by omega)], by omega, x8, fun i hi => ?_⟩, by rw [wrap64_succ (by omega)]; show _ < _; simp; omega⟩
      by_cases e : i = n
      · subst e; rw [same_Ring, hb, hb2]; rfl
      · exact hs i (by omega)
theorem l02Same_c {p q : Addr} {x y : GFilter} (A0 : RdP rFilter h p x) (B0 : RdP rFilter h q y) : CALL prg f_spec_l02Same #[.pointer (some p), .pointer (some q)] (fun u h' => u = .bool (same x y) ∧ Ext h h') h := by
  have hC := (A0.foc foc_Filter_C).len
  have hC' := (B0.foc foc_Filter_C).len
  have hS := same_S2 (A0.foc foc_Filter_S).len (B0.foc foc_Filter_S).len
  refine spec_l02Same.call (A0.oI1 (B0.oI1 (br (fun hb => ⟨by rw [same_Filter, show (x.Kind == y.Kind) = false from nt hb]; rfl, Ext.refl _⟩) fun hk => ?_)))
  have hk : (x.Kind == y.Kind) = true := nf hk
  refine loop (fun z hh => ∃ n : Nat, z = (p, q, (n : Int)) ∧ n ≤ 3 ∧ Ext h hh ∧ ∀ i, i < n → same x.C[i]! y.C[i]! = true) (fun z => (3 - z.2.2).toNat) ⟨0, rfl, by omega, Ext.refl _, fun i hi => by omega⟩ ?_
  rintro z hh ⟨n, rfl, hn, X, hs⟩
  refine brd (fun hc => ?_) fun hc => ?_
  · refine idx (by omega) (by omega) ((((A0.ext X).foc foc_Filter_C).elem (i := n) (by omega)).oF1 fun a ha => idx (by omega) (by omega) ((((B0.ext X).foc foc_Filter_C).elem (i := n) (by omega)).oF1 fun b hb => goE X (l01Same_c ha hb _) fun h8 x8 => as_b (br (fun hb => ⟨?_, x8⟩) fun hb => ?_)))
    · have hb := nt hb
      rw [same_nat] at hb
      rw [same_Filter, same_at hb, Bool.and_false, Bool.false_and]
    · have hb := nf hb
      rw [same_nat] at hb
      refine ⟨⟨n + 1, by rw [wrap64_succ (by omega)], by omega, x8, fun i hi => ?_⟩, by rw [wrap64_succ (by omega)]; show _ < _; simp; omega⟩
      by_cases e : i = n
      · subst e; exact hb
      · exact hs i (by omega)
  · have hCC : same x.C y.C = true := same_all (by omega) fun i hi => hs i (by omega)
    refine idx (by omega) (by omega) ((A0.ext X).oF fun a ha => idx (by omega) (by omega) ((B0.ext X).oF fun b hb => goE X (l01Same_c ha hb _) fun h8 x8 => as_b (br (fun hz => ?_) fun hz => ⟨?_, x8⟩)))
    · refine idx (by omega) (by omega) ((A0.ext x8).oF fun a ha => idx (by omega) (by omega) ((B0.ext x8).oF fun b hb => goE x8 (l01Same_c ha hb _) fun h9 x9 => as_b ⟨?_, x9⟩))
      rw [same_Filter, hk, hCC, hS, hz]; rfl
    · rw [same_Filter, hk, hCC, hS, hz]; rfl
end
end Go.Sx
/- What functions of this seat's program compute, told in words (a predicate over heaps for each), and the proofs that the words are no more than the code's own weakest precondition. -/
namespace Go.Sx
open Go.Proofs
set_option linter.unusedVariables false
set_option maxRecDepth 100000

def impl_ValidBow.S (x_0 : Array Value) (Post : Value → Heap → Prop) (h : Heap) : Prop :=
    ALC x_0 T_impl_Bow (fun g1 h2 =>
    LDA 2 h2 ⟨g1, 0, none⟩ fun a3 =>
    CALL prg f_impl_isRing #[.agg a3] (fun q4 h5 =>
    asB q4 fun b6 =>
    BIF b6 (
    LDA 2 h5 ⟨g1, 2, none⟩ fun a7 =>
    CALL prg f_impl_isRing #[.agg a7] (fun q8 h9 =>
    asB q8 fun b10 =>
    BIF b10 (
    LDA 6 h9 ⟨g1, 4, none⟩ fun a11 =>
    CALL prg f_impl_isFilter #[.agg a11, .int .i64 (1 : Int)] (fun q12 h13 =>
    asB q12 fun b14 =>
    BIF b14 (
    oF .f32 (cell h13 ⟨g1, 10, none⟩) fun r15 =>
    oF .f32 (cell h13 ⟨g1, 11, none⟩) fun r16 =>
    ALC ⟨[.float .f32 r15, .float .f32 r16]⟩ T_float32 (fun g17 h18 =>
    CALL prg f_impl_areFinite #[.slice (some ⟨g17, 0, none⟩) 2 2] (fun q19 h20 =>
    asB q19 fun b21 =>
    Post (.bool b21) h20) h18) h13) (
    Post (.bool false) h13)) h9) (
    Post (.bool false) h9)) h5) (
    Post (.bool false) h5)) h2) h
noncomputable def impl_ValidBow.code : Code := (Tryz.f31.body).getD .skip
theorem impl_ValidBow.call {x_0 : Array Value} {Post : Value → Heap → Prop} {h : Heap} (H : impl_ValidBow.S x_0 Post h) : CALL prg f_impl_ValidBow #[.agg x_0] Post h :=
  fn_call tau_ok mixed (c := impl_ValidBow.code) (Λ := lookL []) Tryz.func31 (by kernel_rfl) (by kernel_rfl)
    (Rq.free (by kernel_rfl))
    (Eq.mp (by kernel_rfl) H)

def spec_l05Bow.S (x_0 : Addr) (Post : Value → Heap → Prop) (h : Heap) : Prop :=
    LDA 2 h x_0 fun a1 =>
    LDA 2 h (Addr.add x_0 2) fun a2 =>
    SIZ (Array.size a1) 2 <|
    SIZ (Array.size a2) 2 <|
    ALC ⟨(splice 2 2 a2 (splice 0 2 a1 [.slice none 0 0, .int .i64 (0 : Int), .slice none 0 0, .int .i64 (0 : Int)]))⟩ T_impl_Ring (fun g3 h4 =>
    CALL prg f_spec_l04Rings #[.slice (some ⟨g3, 0, none⟩) 2 2] (fun q5 h6 =>
    asB q5 fun b7 =>
    BIF b7 (
    CALL prg f_spec_l02Ok #[.pointer (some (Addr.add x_0 4))] (fun q8 h9 =>
    asB q8 fun b10 =>
    BIF b10 (
    oI .i64 (cell h9 (Addr.add x_0 4)) fun n11 =>
    BIF (n11 == (1 : Int)) (
    oF .f32 (cell h9 (Addr.add x_0 10)) fun r12 =>
    oF .f32 (cell h9 (Addr.add x_0 11)) fun r13 =>
    ALC ⟨[.float .f32 r12, .float .f32 r13]⟩ T_float32 (fun g14 h15 =>
    CALL prg f_spec_l04All #[.slice (some ⟨g14, 0, none⟩) 2 2] (fun q16 h17 =>
    asB q16 fun b18 =>
    Post (.bool b18) h17) h15) h9) (
    Post (.bool false) h9)) (
    Post (.bool false) h9)) h6) (
    Post (.bool false) h6)) h4) h
noncomputable def spec_l05Bow.code : Code := (Tryz.f63.body).getD .skip
theorem spec_l05Bow.call {x_0 : Addr} {Post : Value → Heap → Prop} {h : Heap} (H : spec_l05Bow.S x_0 Post h) : CALL prg f_spec_l05Bow #[.pointer (some x_0)] Post h :=
  fn_call tau_ok mixed (c := spec_l05Bow.code) (Λ := lookL []) Tryz.func63 (by kernel_rfl) (by kernel_rfl)
    (Rq.free (by kernel_rfl))
    (Eq.mp (by kernel_rfl) H)

end Go.Sx
/- Bodies of voices: none there, or good ones. -/
set_option linter.unusedVariables false
set_option linter.unusedSimpArgs false
namespace Go.Sx
open Go.Proofs
set_option maxRecDepth 100000
set_option maxHeartbeats 1000000

theorem alcE {α : Type} {r : Rep α} {h0 h : Heap} {x : α} {cs : Array Value} {T : Nat} {F : Nat → Heap → Prop} (E : Ext h0 h) (R : r.rd h cs.toList x) (H : ∀ g h', Ext h0 h' → RdP r h' ⟨g, 0, none⟩ x → F g h') : ALC cs T F h :=
  alcR R fun g h' x' R' => H g h' (E.trans x') R'
section
variable {h : Heap} {q : Addr}
def GString.ok (x : GString) : Bool := x.Loop.ok && (x.Tune.ok && x.Tune.Kind == 3) && (x.Damp.ok && x.Damp.Kind == 2) && fin x.Loss
def GBow.ok (x : GBow) : Bool := x.Neck.okf && x.Bridge.okf && (x.Damp.ok && x.Damp.Kind == 1) && (fin x.Slope && fin x.Loss)
theorem two_fl {x y a b : Nat} (hx : FW .f32 x a) (hy : FW .f32 y b) {T : Nat} {F : Nat → Heap → Prop} (H : ∀ g h', Ext h h' → SlR (rF .f32) h' (some ⟨g, 0, none⟩) 2 2 [a, b] → F g h') : ALC ⟨[.float .f32 x, .float .f32 y]⟩ T F h :=
  rArr_slr (r := rF .f32) (n := 2) (xs := [a, b]) (cs := [.float .f32 x, .float .f32 y]) ⟨rfl, [.float .f32 x], [.float .f32 y], rfl, ⟨x, rfl, hx⟩, [.float .f32 y], [], rfl, ⟨y, rfl, hy⟩, rfl⟩ (by decide) H
theorem ValidBow_c {cs : Array Value} {x : GBow} (R0 : rBow.rd h cs.toList x) : CALL prg f_impl_ValidBow #[.agg cs] (fun u h' => u = .bool x.ok ∧ Ext h h') h := by
  refine impl_ValidBow.call (alcE (Ext.refl h) R0 fun g h0 x0 R => ?_)
  have A : ∀ {hh : Heap}, Ext h0 hh → RdP rBow hh ⟨g, 0, none⟩ x := fun e => R.ext e
  refine R.lda2 foc_Bow_Neck rfl fun c1 R1 => goX (isRing_c R1) fun h1 x1 => as_b (br (fun k1 => ?_) fun k1 => ⟨by rw [GBow.ok, k1]; rfl, x0.trans x1⟩)
  refine (A x1).lda2 foc_Bow_Bridge rfl fun c2 R2 => goE x1 (isRing_c R2) fun h2 x2 => as_b (br (fun k2 => ?_) fun k2 => ⟨by rw [GBow.ok, k2]; simp, x0.trans x2⟩)
  refine (A x2).lda2 foc_Bow_Damp rfl fun c3 R3 => goE x2 (isFilter_c R3 _) fun h3 x3 => as_b (br (fun k3 => ?_) fun k3 => ⟨by rw [GBow.ok, k3]; simp, x0.trans x3⟩)
  refine (A x3).oF2 fun y hy => (A x3).oF2 fun z hz => two_fl hy hz fun g4 h4 x4 S => goX (areFinite_c S) fun h5 x5 => as_b ⟨?_, x0.trans (x3.trans (x4.trans x5))⟩
  rw [GBow.ok, k1, k2, k3]
  simp [allFin]
theorem l05Bow_c {x : GBow} (R : RdP rBow h q x) : CALL prg f_spec_l05Bow #[.pointer (some q)] (fun u h' => u = .bool x.ok ∧ Ext h h') h := by
  have A : ∀ {hh : Heap}, Ext h hh → RdP rBow hh q x := fun e => R.ext e
  have z0 : (rArr 2 rRing).rd h [Value.slice none 0 0, Value.int .i64 (0 : Int), Value.slice none 0 0, Value.int .i64 (0 : Int)] [z_Ring, z_Ring] := ⟨rfl, [Value.slice none 0 0, Value.int .i64 (0 : Int)], [Value.slice none 0 0, Value.int .i64 (0 : Int)], rfl, rRing.look zow_Ring (Mem.start h) (List.nil_sublist _), [Value.slice none 0 0, Value.int .i64 (0 : Int)], [], rfl, rRing.look zow_Ring (Mem.start h) (List.nil_sublist _), rfl⟩
  refine spec_l05Bow.call ((R.fst foc_Bow_Neck).lda1 rfl fun c1 R1 => R.lda foc_Bow_Bridge rfl fun c2 R2 => siz (rsz R1 rfl) (siz (rsz R2 rfl) ?_))
  have z1 := rd_splice (put := fun l b => l.set 0 b) (get := fun l => l[0]!) z0 (fun R => arr_put (i := 0) (by decide) R) R1
  have z2 := rd_splice (put := fun l b => l.set 1 b) (get := fun l => l[1]!) z1 (fun R => arr_put (i := 1) (by decide) R) R2
  refine rArr_slr (r := rRing) (n := 2) (xs := [x.Neck, x.Bridge]) z2 (by decide) fun g h1 x1 S => goE x1 (l04Rings_c S) fun h2 x2 => as_b ?_
  have k : x.ok = ([x.Neck, x.Bridge].all GRing.okf && (x.Damp.ok && x.Damp.Kind == 1) && (fin x.Slope && fin x.Loss)) := by rw [GBow.ok]; simp
  refine br (fun k1 => ?_) fun k1 => ⟨by rw [k, k1]; rfl, x2⟩
  refine goE x2 (l02Ok_c ((A x2).foc foc_Bow_Damp)) fun h3 x3 => as_b (br (fun k2 => (A x3).oI (br (fun k3 => ?_) fun k3 => ⟨by rw [k, k3]; simp, x3⟩)) fun k2 => ⟨by rw [k, k2]; simp, x3⟩)
  refine (A x3).oF fun y hy => (A x3).oF fun z hz => two_fl hy hz fun g4 h4 x4 S => goX (l04All_c S) fun h5 x5 => as_b ⟨?_, x3.trans (x4.trans x5)⟩
  rw [k, k1, k2, k3]
  simp [allFin]
end
end Go.Sx
