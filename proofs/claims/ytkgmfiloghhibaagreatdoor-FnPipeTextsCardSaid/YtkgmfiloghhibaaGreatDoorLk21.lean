/- The program's comparisons of rings, filters, tunings. -/
import Derived.Test.YtkgmfiloghhibaaGreatDoorLf8
import Derived.Test.YtkgmfiloghhibaaGreatDoorK4
set_option linter.unusedVariables false
set_option linter.unusedSimpArgs false
namespace Go.Sx
open Go.Proofs
set_option maxRecDepth 100000
set_option maxHeartbeats 1000000

section
variable {h : Heap}
theorem EqualFunc_f32_c {b1 b2 : Option Addr} {l1 c1 l2 c2 : Nat} {xs ys : List Nat} (S1 : SlR (rF .f32) h b1 l1 c1 xs) (S2 : SlR (rF .f32) h b2 l2 c2 ys) :
    CALL prg f_slices_EqualFunc_sl_float32_sl_float32_float32_float32 #[.slice b1 l1 c1, .slice b2 l2 c2, .func (.func f_impl_SameSample) #[] #[]] (fun u h' => u = .bool (same xs ys) ∧ Ext h h') h := by
  have e1 := S1.len
  have e2 := S2.len
  have h2 := S1.2.1
  have h3 := S1.2.2.1
  have := maxLen_lt
  refine slices_EqualFunc_sl_float32_sl_float32_float32_float32.call (br (fun hb => ⟨by rw [same_len (by simp at hb; omega)], Ext.refl _⟩) fun hb => ?_)
  obtain rfl : l1 = l2 := by simp at hb; omega
  refine loop (fun x hh => ∃ n : Nat, x = (b2, l1, c2, .func (.func f_impl_SameSample) #[] #[], b1, l1, c1, (l1 : Int), (n : Int)) ∧ n ≤ l1 ∧ Ext h hh ∧ ∀ i, i < n → same xs[i]! ys[i]! = true) (fun x => (l1 - x.2.2.2.2.2.2.2.2).toNat) ⟨0, rfl, by omega, Ext.refl _, fun i hi => by omega⟩ ?_
  rintro x hh ⟨n, rfl, hn, X, hs⟩
  refine brd (fun hc => ?_) fun hc => ⟨by rw [same_all (by omega) fun i hi => hs i (by omega)], X⟩
  refine (S1.ext X).idx (by decide) (by omega) (by omega) fun a Ra => Ra.oF1 fun y hy => (S2.ext X).idx (by decide) (by omega) (by omega) fun a' Rb => Rb.oF1 fun z hz => goD X (show CALL prg f_impl_SameSample #[.float .f32 y, .float .f32 z] _ hh from SameSample_c hy hz _) fun h8 x8 => as_b (br (fun hb => ⟨?_, x8⟩) fun hb => ?_)
  · have hb := nt hb
    rw [same_nat] at hb
    rw [same_at hb]
  · have hb := nf hb
    rw [same_nat] at hb
    refine ⟨⟨n + 1, by rw [wrap64_succ (by omega)], by omega, x8, fun i hi => ?_⟩, by rw [wrap64_succ (by omega)]; show _ < _; simp; omega⟩
    by_cases e : i = n
    · subst e; exact hb
    · exact hs i (by omega)
theorem sameSamples_c {b1 b2 : Option Addr} {l1 c1 l2 c2 : Nat} {xs ys : List Nat} (S1 : SlR (rF .f32) h b1 l1 c1 xs) (S2 : SlR (rF .f32) h b2 l2 c2 ys) :
    CALL prg f_impl_sameSamples #[.slice b1 l1 c1, .slice b2 l2 c2] (fun u h' => u = .bool (same xs ys) ∧ Ext h h') h := impl_sameSamples.call (goX (EqualFunc_f32_c S1 S2) fun h' x => as_b ⟨rfl, x⟩)
theorem SameRing_c {ca cb : Array Value} {x y : GRing} (Ra : rRing.rd h ca.toList x) (Rb : rRing.rd h cb.toList y) : CALL prg f_impl_SameRing #[.agg ca, .agg cb] (fun u h' => u = .bool (same x y) ∧ Ext h h') h := by
  refine impl_SameRing.call (alcR Ra fun g1 h1 x1 A => alcR (rRing.ext x1 Rb) fun g2 h2 x2 B0 => ?_)
  have A0 := A.ext x2
  have X0 := x1.trans x2
  have E0 := Ext.refl h2
  have A : ∀ {hh : Heap}, Ext h2 hh → RdP rRing hh ⟨g1, 0, none⟩ x := fun e => A0.ext e
  have B : ∀ {hh : Heap}, Ext h2 hh → RdP rRing hh ⟨g2, 0, none⟩ y := fun e => B0.ext e
  (repeat' (first
    | exact (Bool.false_ne_true hb).elim
    | refine as_b ?_
    | refine pin_same ?_
    | refine RdP.oL2 (A (by assumption)) fun _ _ _ _ => ?_
    | refine RdP.oI2 (A (by assumption)) ?_
    | refine RdP.oL2 (B (by assumption)) fun _ _ _ _ => ?_
    | refine RdP.oI2 (B (by assumption)) ?_
    | refine RdP.lda1 (A (by assumption)) rfl fun _ _ => ?_
    | refine RdP.lda1 (B (by assumption)) rfl fun _ _ => ?_
    | refine goE (by assumption) (sameSamples_c (by assumption) (by assumption)) fun _ _ => ?_
    | refine brN (fun hb => ?_) (fun hb => ?_)
    | refine br (fun hb => ?_) (fun hb => ?_)
    | exact ⟨by rw [same_Ring]; simp [*], X0.trans (by assumption)⟩))
theorem SameFilter_c {ca cb : Array Value} {x y : GFilter} (Ra : rFilter.rd h ca.toList x) (Rb : rFilter.rd h cb.toList y) : CALL prg f_impl_SameFilter #[.agg ca, .agg cb] (fun u h' => u = .bool (same x y) ∧ Ext h h') h := by
  refine impl_SameFilter.call (alcR Ra fun g1 h1 x1 A => alcR (rFilter.ext x1 Rb) fun g2 h2 x2 B0 => ?_)
  have A0 := A.ext x2
  have X0 := x1.trans x2
  have E0 := Ext.refl h2
  have A : ∀ {hh : Heap}, Ext h2 hh → RdP rFilter hh ⟨g1, 0, none⟩ x := fun e => A0.ext e
  have B : ∀ {hh : Heap}, Ext h2 hh → RdP rFilter hh ⟨g2, 0, none⟩ y := fun e => B0.ext e
  have SxC : ∀ {hh : Heap}, Ext h2 hh → SlR (rF .f32) hh (some (slP ⟨g1, 1, none⟩ 3 0 1)) (3 - 0) (3 - 0) x.C := fun e => by rw [slP_zero]; exact ((A e).foc0 foc_Filter_C).arr (by decide)
  have SxS : ∀ {hh : Heap}, Ext h2 hh → SlR (rF .f32) hh (some (slP ⟨g1, 4, none⟩ 2 0 1)) (2 - 0) (2 - 0) x.S := fun e => by rw [slP_zero]; exact ((A e).foc0 foc_Filter_S).arr (by decide)
  have SyC : ∀ {hh : Heap}, Ext h2 hh → SlR (rF .f32) hh (some (slP ⟨g2, 1, none⟩ 3 0 1)) (3 - 0) (3 - 0) y.C := fun e => by rw [slP_zero]; exact ((B e).foc0 foc_Filter_C).arr (by decide)
  have SyS : ∀ {hh : Heap}, Ext h2 hh → SlR (rF .f32) hh (some (slP ⟨g2, 4, none⟩ 2 0 1)) (2 - 0) (2 - 0) y.S := fun e => by rw [slP_zero]; exact ((B e).foc0 foc_Filter_S).arr (by decide)
  (repeat' (first
    | refine slb (by decide) (by decide) (by decide) ?_
    | exact (Bool.false_ne_true hb).elim
    | refine as_b ?_
    | refine pin_same ?_
    | refine RdP.oI2 (A (by assumption)) ?_
    | refine RdP.lda2 (A (by assumption)) foc_Filter_C rfl fun _ _ => ?_
    | refine RdP.lda2 (A (by assumption)) foc_Filter_S rfl fun _ _ => ?_
    | refine RdP.oI2 (B (by assumption)) ?_
    | refine RdP.lda2 (B (by assumption)) foc_Filter_C rfl fun _ _ => ?_
    | refine RdP.lda2 (B (by assumption)) foc_Filter_S rfl fun _ _ => ?_
    | refine RdP.lda1 (A (by assumption)) rfl fun _ _ => ?_
    | refine RdP.lda1 (B (by assumption)) rfl fun _ _ => ?_
    | refine goE (by assumption) (sameSamples_c (SxC (by assumption)) (SyC (by assumption))) fun _ _ => ?_
    | refine goE (by assumption) (sameSamples_c (SxS (by assumption)) (SyS (by assumption))) fun _ _ => ?_
    | refine brN (fun hb => ?_) (fun hb => ?_)
    | refine br (fun hb => ?_) (fun hb => ?_)
    | exact ⟨by rw [same_Filter]; simp [*], X0.trans (by assumption)⟩))
theorem tells_Ring : Tells2 prg rRing (.func (.func f_impl_SameRing) #[] #[]) := fun ca cb x y h Ra Rb => by
  show CALL prg f_impl_SameRing #[.agg ca, .agg cb] _ h
  exact SameRing_c Ra Rb
theorem EqualFunc_Ring_c {b1 b2 : Option Addr} {l1 c1 l2 c2 : Nat} {xs ys : List GRing} {f : Value} (S1 : SlR rRing h b1 l1 c1 xs) (S2 : SlR rRing h b2 l2 c2 ys) (T : Tells2 prg rRing f) :
    CALL prg f_slices_EqualFunc_sl_impl_Ring_sl_impl_Ring_impl_Ring_impl_Ring #[.slice b1 l1 c1, .slice b2 l2 c2, f] (fun u h' => u = .bool (same xs ys) ∧ Ext h h') h := by
  have e1 := S1.len
  have e2 := S2.len
  have h2 := S1.2.1
  have h3 := S1.2.2.1
  have := maxLen_lt
  refine slices_EqualFunc_sl_impl_Ring_sl_impl_Ring_impl_Ring_impl_Ring.call (br (fun hb => ⟨by rw [same_len (by simp at hb; omega)], Ext.refl _⟩) fun hb => ?_)
  obtain rfl : l1 = l2 := by simp at hb; omega
  refine loop (fun x hh => ∃ n : Nat, x = (b2, l1, c2, f, b1, l1, c1, (l1 : Int), (n : Int)) ∧ n ≤ l1 ∧ Ext h hh ∧ ∀ i, i < n → same xs[i]! ys[i]! = true) (fun x => (l1 - x.2.2.2.2.2.2.2.2).toNat) ⟨0, rfl, by omega, Ext.refl _, fun i hi => by omega⟩ ?_
  rintro x hh ⟨n, rfl, hn, X, hs⟩
  refine brd (fun hc => ?_) fun hc => ⟨by rw [same_all (by omega) fun i hi => hs i (by omega)], X⟩
  refine (S1.ext X).idx (by decide) (by omega) (by omega) fun a Ra => Ra.lda1 rfl fun ca R1 => (Mem.start hh).alc fun g1 h4 x4 M => M.sta0 .here (rsz R1 rfl) (rRing.rone R1) rfl .here fun h5 M => ?_
  refine (S2.ext (X.trans M.ext)).idx (by decide) (by omega) (by omega) fun a' Rb => Rb.lda1 rfl fun cb R2 => (Mem.start h5).alc fun g2 h6 x6 N => N.sta0 .here (rsz R2 rfl) (rRing.rone R2) rfl .here fun h7 N => ?_
  have M := M.join N
  refine M.lda0 (.there .here) (rsz R1 rfl) (M.lda0 .here (rsz R2 rfl) (goD (X.trans M.ext) (T _ _ _ _ _ (rRing.ext M.ext R1) (rRing.ext (N.ext) R2)) fun h8 x8 => as_b (br (fun hb => ⟨?_, x8⟩) fun hb => ?_)))
  · rw [same_at (nt hb)]
  · refine ⟨⟨n + 1, by rw [wrap64_succ (by omega)], by omega, x8, fun i hi => ?_⟩, by rw [wrap64_succ (by omega)]; show _ < _; simp; omega⟩
    by_cases e : i = n
    · subst e; exact nf hb
    · exact hs i (by omega)
end
end Go.Sx
/- The program's comparisons of scores and voices. -/
set_option linter.unusedVariables false
set_option linter.unusedSimpArgs false
namespace Go.Sx
open Go.Proofs
set_option maxRecDepth 100000
set_option maxHeartbeats 1000000

section
variable {h : Heap}
theorem SamePipe_c {ca cb : Array Value} {x y : GPipe} (Ra : rPipe.rd h ca.toList x) (Rb : rPipe.rd h cb.toList y) : CALL prg f_impl_SamePipe #[.agg ca, .agg cb] (fun u h' => u = .bool (same x y) ∧ Ext h h') h := by
  refine impl_SamePipe.call (alcR Ra fun g1 h1 x1 A => alcR (rPipe.ext x1 Rb) fun g2 h2 x2 B0 => ?_)
  have A0 := A.ext x2
  have X0 := x1.trans x2
  have E0 := Ext.refl h2
  have A : ∀ {hh : Heap}, Ext h2 hh → RdP rPipe hh ⟨g1, 0, none⟩ x := fun e => A0.ext e
  have B : ∀ {hh : Heap}, Ext h2 hh → RdP rPipe hh ⟨g2, 0, none⟩ y := fun e => B0.ext e
  (repeat' (first
    | unfold impl_SamePipe.J2
    | exact (Bool.false_ne_true hb).elim
    | refine as_b ?_
    | refine pin_same ?_
    | refine RdP.oL1 (A (by assumption)) fun _ _ _ _ => ?_
    | refine RdP.oL (A (by assumption)) fun _ _ _ _ => ?_
    | refine RdP.lda (A (by assumption)) foc_Pipe_End rfl fun _ _ => ?_
    | refine RdP.oB (A (by assumption)) ?_
    | refine RdP.oF (A (by assumption)) fun _ _ => ?_
    | refine RdP.oL1 (B (by assumption)) fun _ _ _ _ => ?_
    | refine RdP.oL (B (by assumption)) fun _ _ _ _ => ?_
    | refine RdP.lda (B (by assumption)) foc_Pipe_End rfl fun _ _ => ?_
    | refine RdP.oB (B (by assumption)) ?_
    | refine RdP.oF (B (by assumption)) fun _ _ => ?_
    | refine RdP.lda1 (A (by assumption)) rfl fun _ _ => ?_
    | refine RdP.lda1 (B (by assumption)) rfl fun _ _ => ?_
    | refine goE (by assumption) (SameSample_c (by assumption) (by assumption) _) fun _ _ => ?_
    | refine goE (by assumption) (sameSamples_c (by assumption) (by assumption)) fun _ _ => ?_
    | refine goE (by assumption) (SameFilter_c (by assumption) (by assumption)) fun _ _ => ?_
    | refine goE (by assumption) (EqualFunc_Ring_c (by assumption) (by assumption) tells_Ring) fun _ _ => ?_
    | refine brN (fun hb => ?_) (fun hb => ?_)
    | exact (Bool.false_ne_true hb).elim
    | refine as_b ?_
    | refine pin_same ?_
    | refine RdP.oL2 (A (by assumption)) fun _ _ _ _ => ?_
    | refine RdP.lda2 (A (by assumption)) foc_Pipe_End rfl fun _ _ => ?_
    | refine RdP.oB2 (A (by assumption)) ?_
    | refine RdP.oF2 (A (by assumption)) fun _ _ => ?_
    | refine RdP.oL2 (B (by assumption)) fun _ _ _ _ => ?_
    | refine RdP.lda2 (B (by assumption)) foc_Pipe_End rfl fun _ _ => ?_
    | refine RdP.oB2 (B (by assumption)) ?_
    | refine RdP.oF2 (B (by assumption)) fun _ _ => ?_
    | refine RdP.lda1 (A (by assumption)) rfl fun _ _ => ?_
    | refine RdP.lda1 (B (by assumption)) rfl fun _ _ => ?_
    | refine goE (by assumption) (SameSample_c (by assumption) (by assumption) _) fun _ _ => ?_
    | refine goE (by assumption) (sameSamples_c (by assumption) (by assumption)) fun _ _ => ?_
    | refine goE (by assumption) (SameFilter_c (by assumption) (by assumption)) fun _ _ => ?_
    | refine goE (by assumption) (EqualFunc_Ring_c (by assumption) (by assumption) tells_Ring) fun _ _ => ?_
    | refine brN (fun hb => ?_) (fun hb => ?_)
    | refine br (fun hb => ?_) (fun hb => ?_)
    | exact ⟨by rw [same_Pipe]; simp [*], X0.trans (by assumption)⟩))
end
end Go.Sx
/- The rule's comparisons of rings, filters, strings, pipes. -/
set_option linter.unusedVariables false
set_option linter.unusedSimpArgs false
namespace Go.Sx
open Go.Proofs
set_option maxRecDepth 100000
set_option maxHeartbeats 1000000

section
variable {h : Heap}
theorem l02SameList_c {b1 b2 : Option Addr} {l1 c1 l2 c2 : Nat} {xs ys : List Nat} (S1 : SlR (rF .f32) h b1 l1 c1 xs) (S2 : SlR (rF .f32) h b2 l2 c2 ys) :
    CALL prg f_spec_l02SameList #[.slice b1 l1 c1, .slice b2 l2 c2] (fun u h' => u = .bool (same xs ys) ∧ Ext h h') h := by
  have e1 := S1.len
  have e2 := S2.len
  have h2 := S1.2.1
  have h3 := S1.2.2.1
  have := maxLen_lt
  refine spec_l02SameList.call (br (fun hb => ⟨by rw [same_len (by simp at hb; omega)], Ext.refl _⟩) fun hb => ?_)
  obtain rfl : l1 = l2 := by simp at hb; omega
  refine loop (fun x hh => ∃ n : Nat, x = (b1, l1, c1, b2, l1, c2, (n : Int)) ∧ n ≤ l1 ∧ Ext h hh ∧ ∀ i, i < n → same xs[i]! ys[i]! = true) (fun x => (l1 - x.2.2.2.2.2.2).toNat) ⟨0, rfl, by omega, Ext.refl _, fun i hi => by omega⟩ ?_
  rintro x hh ⟨n, rfl, hn, X, hs⟩
  refine brd (fun hc => ?_) fun hc => ⟨by rw [same_all (by omega) fun i hi => hs i (by omega)], X⟩
  refine (S1.ext X).idx (by decide) (by omega) (by omega) fun a Ra => Ra.oF1 fun y hy => (S2.ext X).idx (by decide) (by omega) (by omega) fun a' Rb => Rb.oF1 fun z hz => goE X (l01Same_c hy hz _) fun h8 x8 => as_b (br (fun hb => ⟨?_, x8⟩) fun hb => ?_)
  · have hb := nt hb
    rw [same_nat] at hb
    rw [same_at hb]
  · have hb := nf hb
    rw [same_nat] at hb
    refine ⟨⟨n + 1, by rw [wrap64_succ (by omega)], by omega, x8, fun i hi => ?_⟩, by rw [wrap64_succ (by omega)]; show _ < _; simp; omega⟩
    by_cases e : i = n
    · subst e; exact hb
    · exact hs i (by omega)
theorem l04SameRings_c {b1 b2 : Option Addr} {l1 c1 l2 c2 : Nat} {xs ys : List GRing} (S1 : SlR rRing h b1 l1 c1 xs) (S2 : SlR rRing h b2 l2 c2 ys) :
    CALL prg f_spec_l04SameRings #[.slice b1 l1 c1, .slice b2 l2 c2] (fun u h' => u = .bool (same xs ys) ∧ Ext h h') h := by
  have e1 := S1.len
  have e2 := S2.len
  have h2 := S1.2.1
  have h3 := S1.2.2.1
  have := maxLen_lt
  refine spec_l04SameRings.call (br (fun hb => ⟨by rw [same_len (by simp at hb; omega)], Ext.refl _⟩) fun hb => ?_)
  obtain rfl : l1 = l2 := by simp at hb; omega
  refine loop (fun x hh => ∃ n : Nat, x = (b1, l1, c1, b2, l1, c2, (n : Int)) ∧ n ≤ l1 ∧ Ext h hh ∧ ∀ i, i < n → same xs[i]! ys[i]! = true) (fun x => (l1 - x.2.2.2.2.2.2).toNat) ⟨0, rfl, by omega, Ext.refl _, fun i hi => by omega⟩ ?_
  rintro x hh ⟨n, rfl, hn, X, hs⟩
  refine brd (fun hc => ?_) fun hc => ⟨by rw [same_all (by omega) fun i hi => hs i (by omega)], X⟩
  refine (S1.ext X).idx (by decide) (by omega) (by omega) fun a Ra => Ra.oI ((S2.ext X).idx (by decide) (by omega) (by omega) fun a' Rb => Rb.oI (br (fun hb => ⟨?_, X⟩) fun hb => ?_))
  · have hb : (xs[n]!.At == ys[n]!.At) = false := nt hb
    rw [same_at (i := n) (by rw [same_Ring, hb, Bool.and_false])]
  · have hb : (xs[n]!.At == ys[n]!.At) = true := nf hb
    refine (S1.ext X).idx (by decide) (by omega) (by omega) fun a Ra => Ra.oL1 fun b3 l3 c3 S3 => (S2.ext X).idx (by decide) (by omega) (by omega) fun a' Rb => Rb.oL1 fun b4 l4 c4 S4 => goE X (l02SameList_c S3 S4) fun h8 x8 => as_b (br (fun hb2 => ⟨?_, x8⟩) fun hb2 => ?_)
    · have hb2 : same xs[n]!.Samples ys[n]!.Samples = false := nt hb2
      rw [same_at (i := n) (by rw [same_Ring, hb2, Bool.false_and])]
    · have hb2 : same xs[n]!.Samples ys[n]!.Samples = true := nf hb2
      refine ⟨⟨n + 1, by rw [wrap64_succ (by omega)], by omega, x8, fun i hi => ?_⟩, by rw [wrap64_succ (by omega)]; show _ < _; simp; omega⟩
      by_cases e : i = n
      · subst e; rw [same_Ring, hb, hb2]; rfl
      · exact hs i (by omega)
theorem l02Same_c {p q : Addr} {x y : GFilter} (A0 : RdP rFilter h p x) (B0 : RdP rFilter h q y) : CALL prg f_spec_l02Same #[.pointer (some p), .pointer (some q)] (fun u h' => u = .bool (same x y) ∧ Ext h h') h := by
  have hC := (A0.foc foc_Filter_C).len
  have hC' := (B0.foc foc_Filter_C).len
  have hS := same_S2 (A0.foc foc_Filter_S).len (B0.foc foc_Filter_S).len
  refine spec_l02Same.call (A0.oI1 (B0.oI1 (br (fun hb => ⟨by rw [same_Filter, show (x.Kind == y.Kind) = false from nt hb]; rfl, Ext.refl _⟩) fun hk => ?_)))
  have hk : (x.Kind == y.Kind) = true := nf hk
  refine loop (fun z hh => ∃ n : Nat, z = (p, q, (n : Int)) ∧ n ≤ 3 ∧ Ext h hh ∧ ∀ i, i < n → same x.C[i]! y.C[i]! = true) (fun z => (3 - z.2.2).toNat) ⟨0, rfl, by omega, Ext.refl _, fun i hi => by omega⟩ ?_
  rintro z hh ⟨n, rfl, hn, X, hs⟩
  refine brd (fun hc => ?_) fun hc => ?_
  · refine idx (by omega) (by omega) ((((A0.ext X).foc foc_Filter_C).elem (i := n) (by omega)).oF1 fun a ha => idx (by omega) (by omega) ((((B0.ext X).foc foc_Filter_C).elem (i := n) (by omega)).oF1 fun b hb => goE X (l01Same_c ha hb _) fun h8 x8 => as_b (br (fun hb => ⟨?_, x8⟩) fun hb => ?_)))
    · have hb := nt hb
      rw [same_nat] at hb
      rw [same_Filter, same_at hb, Bool.and_false, Bool.false_and]
    · have hb := nf hb
      rw [same_nat] at hb
      refine ⟨⟨n + 1, by rw [wrap64_succ (by omega)], by omega, x8, fun i hi => ?_⟩, by rw [wrap64_succ (by omega)]; show _ < _; simp; omega⟩
      by_cases e : i = n
      · subst e; exact hb
      · exact hs i (by omega)
  · have hCC : same x.C y.C = true := same_all (by omega) fun i hi => hs i (by omega)
    refine idx (by omega) (by omega) ((A0.ext X).oF fun a ha => idx (by omega) (by omega) ((B0.ext X).oF fun b hb => goE X (l01Same_c ha hb _) fun h8 x8 => as_b (br (fun hz => ?_) fun hz => ⟨?_, x8⟩)))
    · refine idx (by omega) (by omega) ((A0.ext x8).oF fun a ha => idx (by omega) (by omega) ((B0.ext x8).oF fun b hb => goE x8 (l01Same_c ha hb _) fun h9 x9 => as_b ⟨?_, x9⟩))
      rw [same_Filter, hk, hCC, hS, hz]; rfl
    · rw [same_Filter, hk, hCC, hS, hz]; rfl
theorem l04Same_c {p q : Addr} {x y : GPipe} (A0 : RdP rPipe h p x) (B0 : RdP rPipe h q y) : CALL prg f_spec_l04Same #[.pointer (some p), .pointer (some q)] (fun u h' => u = .bool (same x y) ∧ Ext h h') h := by
  have X0 := Ext.refl h
  have E0 := Ext.refl h
  have A : ∀ {hh : Heap}, Ext h hh → RdP rPipe hh p x := fun e => A0.ext e
  have B : ∀ {hh : Heap}, Ext h hh → RdP rPipe hh q y := fun e => B0.ext e
  refine spec_l04Same.call ?_
  unfold spec_l04Same.S
  (repeat' (first
    | exact (Bool.false_ne_true hb).elim
    | refine as_b ?_
    | refine pin_same ?_
    | refine RdP.oL1 (A (by assumption)) fun _ _ _ _ => ?_
    | refine RdP.oL (A (by assumption)) fun _ _ _ _ => ?_
    | refine RdP.lda (A (by assumption)) foc_Pipe_End rfl fun _ _ => ?_
    | refine RdP.oB (A (by assumption)) ?_
    | refine RdP.oF (A (by assumption)) fun _ _ => ?_
    | refine RdP.oL1 (B (by assumption)) fun _ _ _ _ => ?_
    | refine RdP.oL (B (by assumption)) fun _ _ _ _ => ?_
    | refine RdP.lda (B (by assumption)) foc_Pipe_End rfl fun _ _ => ?_
    | refine RdP.oB (B (by assumption)) ?_
    | refine RdP.oF (B (by assumption)) fun _ _ => ?_
    | refine RdP.lda1 (A (by assumption)) rfl fun _ _ => ?_
    | refine RdP.lda1 (B (by assumption)) rfl fun _ _ => ?_
    | refine goE (by assumption) (l01Same_c (by assumption) (by assumption) _) fun _ _ => ?_
    | refine goE (by assumption) (l02SameList_c (by assumption) (by assumption)) fun _ _ => ?_
    | refine goE (by assumption) (l04SameRings_c (by assumption) (by assumption)) fun _ _ => ?_
    | refine goE (by assumption) (l02Same_c ((A (by assumption)).foc foc_Pipe_End) ((B (by assumption)).foc foc_Pipe_End)) fun _ _ => ?_
    | refine brN (fun hb => ?_) (fun hb => ?_)
    | refine br (fun hb => ?_) (fun hb => ?_)
    | exact ⟨by rw [same_Pipe]; simp [*], X0.trans (by assumption)⟩))
end
end Go.Sx
