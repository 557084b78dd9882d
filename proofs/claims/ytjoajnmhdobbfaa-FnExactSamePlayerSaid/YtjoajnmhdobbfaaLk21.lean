/- The program's comparisons of rings, filters, tunings. -/
import Derived.Test.YtjoajnmhdobbfaaLk17
import Derived.Test.YtjoajnmhdobbfaaK4
set_option linter.unusedVariables false
set_option linter.unusedSimpArgs false
namespace Go.Sx
open Go.Proofs
set_option maxRecDepth 100000
set_option maxHeartbeats 1000000

section
variable {h : Heap}
theorem EqualFunc_f32_c {b1 b2 : Option Addr} {l1 c1 l2 c2 : Nat} {xs ys : List Nat} (S1 : SlR (rF .f32) h b1 l1 c1 xs) (S2 : SlR (rF .f32) h b2 l2 c2 ys) :
    CALL prg f_slices_EqualFunc_sl_float32_sl_float32_float32_float32 #[.slice b1 l1 c1, .slice b2 l2 c2, .func (.func f_impl_SameSample) #[] #[]] (fun u h' => u = .bool (same xs ys) ∧ Ext h h') h := by
  have e1 := S1.len
  have e2 := S2.len
  have h2 := S1.2.1
  have h3 := S1.2.2.1
  have := maxLen_lt
  refine slices_EqualFunc_sl_float32_sl_float32_float32_float32.call (br (fun hb => ⟨by rw [same_len (by simp at hb; omega)], Ext.refl _⟩) fun hb => ?_)
  obtain rfl : l1 = l2 := by simp at hb; omega
  refine loop (fun x hh => ∃ n : Nat, x = (b2, l1, c2, .func (.func f_impl_SameSample) #[] #[], b1, l1, c1, (l1 : Int), (n : Int)) ∧ n ≤ l1 ∧ Ext h hh ∧ ∀ i, i < n → same xs[i]! ys[i]! = true) (fun x => (l1 - x.2.2.2.2.2.2.2.2).toNat) ⟨0, rfl, by omega, Ext.refl _, fun i hi => by omega⟩ ?_
  rintro x hh ⟨n, rfl, hn, X, hs⟩
  refine brd (fun hc => ?_) fun hc => ⟨by rw [same_all (by omega) fun i hi => hs i (by omega)], X⟩
  refine (S1.ext X).idx (by decide) (by omega) (by omega) fun a Ra => Ra.oF1 fun y hy => (S2.ext X).idx (by decide) (by omega) (by omega) fun a' Rb => Rb.oF1 fun z hz => goD X (show CALL prg f_impl_SameSample #[.float .f32 y, .float .f32 z] _ hh from SameSample_c hy hz _) fun h8 x8 => as_b (br (fun hb => ⟨?_, x8⟩) fun hb => ?_)
  · have hb := nt hb
    rw [same_nat] at hb
    rw [same_at hb]
  · have hb := nf hb
    rw [same_nat] at hb
    refine ⟨⟨n + 1, by rw [wrap64_succ (by omega)], by omega, x8, fun i hi => ?_⟩, by rw [wrap64_succ (by omega)]; show _ < _; simp; omega⟩
    by_cases e : i = n
    · subst e; exact hb
    · exact hs i (by omega)
theorem sameSamples_c {b1 b2 : Option Addr} {l1 c1 l2 c2 : Nat} {xs ys : List Nat} (S1 : SlR (rF .f32) h b1 l1 c1 xs) (S2 : SlR (rF .f32) h b2 l2 c2 ys) :
    CALL prg f_impl_sameSamples #[.slice b1 l1 c1, .slice b2 l2 c2] (fun u h' => u = .bool (same xs ys) ∧ Ext h h') h := impl_sameSamples.call (goX (EqualFunc_f32_c S1 S2) fun h' x => as_b ⟨rfl, x⟩)
theorem SameTuning_c {ca cb : Array Value} {x y : GTuning} (Ra : rTuning.rd h ca.toList x) (Rb : rTuning.rd h cb.toList y) : CALL prg f_impl_SameTuning #[.agg ca, .agg cb] (fun u h' => u = .bool (same x y) ∧ Ext h h') h := by
  refine impl_SameTuning.call (alcR Ra fun g1 h1 x1 A => alcR (rTuning.ext x1 Rb) fun g2 h2 x2 B0 => ?_)
  have A0 := A.ext x2
  have X0 := x1.trans x2
  have E0 := Ext.refl h2
  have A : ∀ {hh : Heap}, Ext h2 hh → RdP rTuning hh ⟨g1, 0, none⟩ x := fun e => A0.ext e
  have B : ∀ {hh : Heap}, Ext h2 hh → RdP rTuning hh ⟨g2, 0, none⟩ y := fun e => B0.ext e
  (repeat' (first
    | exact (Bool.false_ne_true hb).elim
    | refine as_b ?_
    | refine pin_same ?_
    | refine RdP.oF2 (A (by assumption)) fun _ _ => ?_
    | refine RdP.oL2 (A (by assumption)) fun _ _ _ _ => ?_
    | refine RdP.oF2 (B (by assumption)) fun _ _ => ?_
    | refine RdP.oL2 (B (by assumption)) fun _ _ _ _ => ?_
    | refine RdP.lda1 (A (by assumption)) rfl fun _ _ => ?_
    | refine RdP.lda1 (B (by assumption)) rfl fun _ _ => ?_
    | refine goE (by assumption) (SameSample_c (by assumption) (by assumption) _) fun _ _ => ?_
    | refine goE (by assumption) (sameSamples_c (by assumption) (by assumption)) fun _ _ => ?_
    | refine brN (fun hb => ?_) (fun hb => ?_)
    | refine br (fun hb => ?_) (fun hb => ?_)
    | exact ⟨by rw [same_Tuning]; simp [*], X0.trans (by assumption)⟩))
theorem SameRing_c {ca cb : Array Value} {x y : GRing} (Ra : rRing.rd h ca.toList x) (Rb : rRing.rd h cb.toList y) : CALL prg f_impl_SameRing #[.agg ca, .agg cb] (fun u h' => u = .bool (same x y) ∧ Ext h h') h := by
  refine impl_SameRing.call (alcR Ra fun g1 h1 x1 A => alcR (rRing.ext x1 Rb) fun g2 h2 x2 B0 => ?_)
  have A0 := A.ext x2
  have X0 := x1.trans x2
  have E0 := Ext.refl h2
  have A : ∀ {hh : Heap}, Ext h2 hh → RdP rRing hh ⟨g1, 0, none⟩ x := fun e => A0.ext e
  have B : ∀ {hh : Heap}, Ext h2 hh → RdP rRing hh ⟨g2, 0, none⟩ y := fun e => B0.ext e
  (repeat' (first
    | exact (Bool.false_ne_true hb).elim
    | refine as_b ?_
    | refine pin_same ?_
    | refine RdP.oL2 (A (by assumption)) fun _ _ _ _ => ?_
    | refine RdP.oI2 (A (by assumption)) ?_
    | refine RdP.oL2 (B (by assumption)) fun _ _ _ _ => ?_
    | refine RdP.oI2 (B (by assumption)) ?_
    | refine RdP.lda1 (A (by assumption)) rfl fun _ _ => ?_
    | refine RdP.lda1 (B (by assumption)) rfl fun _ _ => ?_
    | refine goE (by assumption) (sameSamples_c (by assumption) (by assumption)) fun _ _ => ?_
    | refine brN (fun hb => ?_) (fun hb => ?_)
    | refine br (fun hb => ?_) (fun hb => ?_)
    | exact ⟨by rw [same_Ring]; simp [*], X0.trans (by assumption)⟩))
theorem sameEvent_c {ca cb : Array Value} {x y : GEvent} (Ra : rEvent.rd h ca.toList x) (Rb : rEvent.rd h cb.toList y) : CALL prg f_impl_sameEvent #[.agg ca, .agg cb] (fun u h' => u = .bool (same x y) ∧ Ext h h') h := by
  refine impl_sameEvent.call (alcR Ra fun g1 h1 x1 A => alcR (rEvent.ext x1 Rb) fun g2 h2 x2 B0 => ?_)
  have A0 := A.ext x2
  have X0 := x1.trans x2
  have E0 := Ext.refl h2
  have A : ∀ {hh : Heap}, Ext h2 hh → RdP rEvent hh ⟨g1, 0, none⟩ x := fun e => A0.ext e
  have B : ∀ {hh : Heap}, Ext h2 hh → RdP rEvent hh ⟨g2, 0, none⟩ y := fun e => B0.ext e
  (repeat' (first
    | exact (Bool.false_ne_true hb).elim
    | refine as_b ?_
    | refine pin_same ?_
    | refine RdP.oI2 (A (by assumption)) ?_
    | refine RdP.oF2 (A (by assumption)) fun _ _ => ?_
    | refine RdP.oI2 (B (by assumption)) ?_
    | refine RdP.oF2 (B (by assumption)) fun _ _ => ?_
    | refine RdP.lda1 (A (by assumption)) rfl fun _ _ => ?_
    | refine RdP.lda1 (B (by assumption)) rfl fun _ _ => ?_
    | refine goE (by assumption) (SameSample_c (by assumption) (by assumption) _) fun _ _ => ?_
    | refine brN (fun hb => ?_) (fun hb => ?_)
    | refine br (fun hb => ?_) (fun hb => ?_)
    | exact ⟨by rw [same_Event]; simp [*], X0.trans (by assumption)⟩))
theorem sameInstruments_c1_c {ca cb : Array Value} {x y : GInstrument} (Ra : rInstrument.rd h ca.toList x) (Rb : rInstrument.rd h cb.toList y) : CALL prg f_impl_sameInstruments_c1 #[.agg ca, .agg cb] (fun u h' => u = .bool (same x y) ∧ Ext h h') h := by
  refine impl_sameInstruments_c1.call (alcR Ra fun g1 h1 x1 A => alcR (rInstrument.ext x1 Rb) fun g2 h2 x2 B0 => ?_)
  have A0 := A.ext x2
  have X0 := x1.trans x2
  have E0 := Ext.refl h2
  have A : ∀ {hh : Heap}, Ext h2 hh → RdP rInstrument hh ⟨g1, 0, none⟩ x := fun e => A0.ext e
  have B : ∀ {hh : Heap}, Ext h2 hh → RdP rInstrument hh ⟨g2, 0, none⟩ y := fun e => B0.ext e
  (repeat' (first
    | exact (Bool.false_ne_true hb).elim
    | refine as_b ?_
    | refine pin_same ?_
    | refine RdP.oS2 (A (by assumption)) fun _ => ?_
    | refine RdP.oI2 (A (by assumption)) ?_
    | refine RdP.oF2 (A (by assumption)) fun _ _ => ?_
    | refine RdP.oS2 (B (by assumption)) fun _ => ?_
    | refine RdP.oI2 (B (by assumption)) ?_
    | refine RdP.oF2 (B (by assumption)) fun _ _ => ?_
    | refine RdP.lda1 (A (by assumption)) rfl fun _ _ => ?_
    | refine RdP.lda1 (B (by assumption)) rfl fun _ _ => ?_
    | refine goE (by assumption) (SameSample_c (by assumption) (by assumption) _) fun _ _ => ?_
    | refine brN (fun hb => ?_) (fun hb => ?_)
    | refine br (fun hb => ?_) (fun hb => ?_)
    | exact ⟨by rw [same_Instrument]; simp [*], X0.trans (by assumption)⟩))
theorem SameFilter_c {ca cb : Array Value} {x y : GFilter} (Ra : rFilter.rd h ca.toList x) (Rb : rFilter.rd h cb.toList y) : CALL prg f_impl_SameFilter #[.agg ca, .agg cb] (fun u h' => u = .bool (same x y) ∧ Ext h h') h := by
  refine impl_SameFilter.call (alcR Ra fun g1 h1 x1 A => alcR (rFilter.ext x1 Rb) fun g2 h2 x2 B0 => ?_)
  have A0 := A.ext x2
  have X0 := x1.trans x2
  have E0 := Ext.refl h2
  have A : ∀ {hh : Heap}, Ext h2 hh → RdP rFilter hh ⟨g1, 0, none⟩ x := fun e => A0.ext e
  have B : ∀ {hh : Heap}, Ext h2 hh → RdP rFilter hh ⟨g2, 0, none⟩ y := fun e => B0.ext e
  have SxC : ∀ {hh : Heap}, Ext h2 hh → SlR (rF .f32) hh (some (slP ⟨g1, 1, none⟩ 3 0 1)) (3 - 0) (3 - 0) x.C := fun e => by rw [slP_zero]; exact ((A e).foc0 foc_Filter_C).arr (by decide)
  have SxS : ∀ {hh : Heap}, Ext h2 hh → SlR (rF .f32) hh (some (slP ⟨g1, 4, none⟩ 2 0 1)) (2 - 0) (2 - 0) x.S := fun e => by rw [slP_zero]; exact ((A e).foc0 foc_Filter_S).arr (by decide)
  have SyC : ∀ {hh : Heap}, Ext h2 hh → SlR (rF .f32) hh (some (slP ⟨g2, 1, none⟩ 3 0 1)) (3 - 0) (3 - 0) y.C := fun e => by rw [slP_zero]; exact ((B e).foc0 foc_Filter_C).arr (by decide)
  have SyS : ∀ {hh : Heap}, Ext h2 hh → SlR (rF .f32) hh (some (slP ⟨g2, 4, none⟩ 2 0 1)) (2 - 0) (2 - 0) y.S := fun e => by rw [slP_zero]; exact ((B e).foc0 foc_Filter_S).arr (by decide)
  (repeat' (first
    | refine slb (by decide) (by decide) (by decide) ?_
    | exact (Bool.false_ne_true hb).elim
    | refine as_b ?_
    | refine pin_same ?_
    | refine RdP.oI2 (A (by assumption)) ?_
    | refine RdP.lda2 (A (by assumption)) foc_Filter_C rfl fun _ _ => ?_
    | refine RdP.lda2 (A (by assumption)) foc_Filter_S rfl fun _ _ => ?_
    | refine RdP.oI2 (B (by assumption)) ?_
    | refine RdP.lda2 (B (by assumption)) foc_Filter_C rfl fun _ _ => ?_
    | refine RdP.lda2 (B (by assumption)) foc_Filter_S rfl fun _ _ => ?_
    | refine RdP.lda1 (A (by assumption)) rfl fun _ _ => ?_
    | refine RdP.lda1 (B (by assumption)) rfl fun _ _ => ?_
    | refine goE (by assumption) (sameSamples_c (SxC (by assumption)) (SyC (by assumption))) fun _ _ => ?_
    | refine goE (by assumption) (sameSamples_c (SxS (by assumption)) (SyS (by assumption))) fun _ _ => ?_
    | refine brN (fun hb => ?_) (fun hb => ?_)
    | refine br (fun hb => ?_) (fun hb => ?_)
    | exact ⟨by rw [same_Filter]; simp [*], X0.trans (by assumption)⟩))
theorem tells_Ring : Tells2 prg rRing (.func (.func f_impl_SameRing) #[] #[]) := fun ca cb x y h Ra Rb => by
  show CALL prg f_impl_SameRing #[.agg ca, .agg cb] _ h
  exact SameRing_c Ra Rb
theorem tells_Event : Tells2 prg rEvent (.func (.func f_impl_sameEvent) #[] #[]) := fun ca cb x y h Ra Rb => by
  show CALL prg f_impl_sameEvent #[.agg ca, .agg cb] _ h
  exact sameEvent_c Ra Rb
theorem tells_Instrument : Tells2 prg rInstrument (.func (.func f_impl_sameInstruments_c1) #[] #[]) := fun ca cb x y h Ra Rb => by
  show CALL prg f_impl_sameInstruments_c1 #[.agg ca, .agg cb] _ h
  exact sameInstruments_c1_c Ra Rb
theorem EqualFunc_Ring_c {b1 b2 : Option Addr} {l1 c1 l2 c2 : Nat} {xs ys : List GRing} {f : Value} (S1 : SlR rRing h b1 l1 c1 xs) (S2 : SlR rRing h b2 l2 c2 ys) (T : Tells2 prg rRing f) :
    CALL prg f_slices_EqualFunc_sl_impl_Ring_sl_impl_Ring_impl_Ring_impl_Ring #[.slice b1 l1 c1, .slice b2 l2 c2, f] (fun u h' => u = .bool (same xs ys) ∧ Ext h h') h := by
  have e1 := S1.len
  have e2 := S2.len
  have h2 := S1.2.1
  have h3 := S1.2.2.1
  have := maxLen_lt
  refine slices_EqualFunc_sl_impl_Ring_sl_impl_Ring_impl_Ring_impl_Ring.call (br (fun hb => ⟨by rw [same_len (by simp at hb; omega)], Ext.refl _⟩) fun hb => ?_)
  obtain rfl : l1 = l2 := by simp at hb; omega
  refine loop (fun x hh => ∃ n : Nat, x = (b2, l1, c2, f, b1, l1, c1, (l1 : Int), (n : Int)) ∧ n ≤ l1 ∧ Ext h hh ∧ ∀ i, i < n → same xs[i]! ys[i]! = true) (fun x => (l1 - x.2.2.2.2.2.2.2.2).toNat) ⟨0, rfl, by omega, Ext.refl _, fun i hi => by omega⟩ ?_
  rintro x hh ⟨n, rfl, hn, X, hs⟩
  refine brd (fun hc => ?_) fun hc => ⟨by rw [same_all (by omega) fun i hi => hs i (by omega)], X⟩
  refine (S1.ext X).idx (by decide) (by omega) (by omega) fun a Ra => Ra.lda1 rfl fun ca R1 => (Mem.start hh).alc fun g1 h4 x4 M => M.sta0 .here (rsz R1 rfl) (rRing.rone R1) rfl .here fun h5 M => ?_
  refine (S2.ext (X.trans M.ext)).idx (by decide) (by omega) (by omega) fun a' Rb => Rb.lda1 rfl fun cb R2 => (Mem.start h5).alc fun g2 h6 x6 N => N.sta0 .here (rsz R2 rfl) (rRing.rone R2) rfl .here fun h7 N => ?_
  have M := M.join N
  refine M.lda0 (.there .here) (rsz R1 rfl) (M.lda0 .here (rsz R2 rfl) (goD (X.trans M.ext) (T _ _ _ _ _ (rRing.ext M.ext R1) (rRing.ext (N.ext) R2)) fun h8 x8 => as_b (br (fun hb => ⟨?_, x8⟩) fun hb => ?_)))
  · rw [same_at (nt hb)]
  · refine ⟨⟨n + 1, by rw [wrap64_succ (by omega)], by omega, x8, fun i hi => ?_⟩, by rw [wrap64_succ (by omega)]; show _ < _; simp; omega⟩
    by_cases e : i = n
    · subst e; exact nf hb
    · exact hs i (by omega)
theorem EqualFunc_Event_c {b1 b2 : Option Addr} {l1 c1 l2 c2 : Nat} {xs ys : List GEvent} {f : Value} (S1 : SlR rEvent h b1 l1 c1 xs) (S2 : SlR rEvent h b2 l2 c2 ys) (T : Tells2 prg rEvent f) :
    CALL prg f_slices_EqualFunc_sl_impl_Event_sl_impl_Event_impl_Event_impl_Event #[.slice b1 l1 c1, .slice b2 l2 c2, f] (fun u h' => u = .bool (same xs ys) ∧ Ext h h') h := by
  have e1 := S1.len
  have e2 := S2.len
  have h2 := S1.2.1
  have h3 := S1.2.2.1
  have := maxLen_lt
  refine slices_EqualFunc_sl_impl_Event_sl_impl_Event_impl_Event_impl_Event.call (br (fun hb => ⟨by rw [same_len (by simp at hb; omega)], Ext.refl _⟩) fun hb => ?_)
  obtain rfl : l1 = l2 := by simp at hb; omega
  refine loop (fun x hh => ∃ n : Nat, x = (b2, l1, c2, f, b1, l1, c1, (l1 : Int), (n : Int)) ∧ n ≤ l1 ∧ Ext h hh ∧ ∀ i, i < n → same xs[i]! ys[i]! = true) (fun x => (l1 - x.2.2.2.2.2.2.2.2).toNat) ⟨0, rfl, by omega, Ext.refl _, fun i hi => by omega⟩ ?_
  rintro x hh ⟨n, rfl, hn, X, hs⟩
  refine brd (fun hc => ?_) fun hc => ⟨by rw [same_all (by omega) fun i hi => hs i (by omega)], X⟩
  refine (S1.ext X).idx (by decide) (by omega) (by omega) fun a Ra => Ra.lda1 rfl fun ca R1 => (Mem.start hh).alc fun g1 h4 x4 M => M.sta0 .here (rsz R1 rfl) (rEvent.rone R1) rfl .here fun h5 M => ?_
  refine (S2.ext (X.trans M.ext)).idx (by decide) (by omega) (by omega) fun a' Rb => Rb.lda1 rfl fun cb R2 => (Mem.start h5).alc fun g2 h6 x6 N => N.sta0 .here (rsz R2 rfl) (rEvent.rone R2) rfl .here fun h7 N => ?_
  have M := M.join N
  refine M.lda0 (.there .here) (rsz R1 rfl) (M.lda0 .here (rsz R2 rfl) (goD (X.trans M.ext) (T _ _ _ _ _ (rEvent.ext M.ext R1) (rEvent.ext (N.ext) R2)) fun h8 x8 => as_b (br (fun hb => ⟨?_, x8⟩) fun hb => ?_)))
  · rw [same_at (nt hb)]
  · refine ⟨⟨n + 1, by rw [wrap64_succ (by omega)], by omega, x8, fun i hi => ?_⟩, by rw [wrap64_succ (by omega)]; show _ < _; simp; omega⟩
    by_cases e : i = n
    · subst e; exact nf hb
    · exact hs i (by omega)
theorem EqualFunc_Instrument_c {b1 b2 : Option Addr} {l1 c1 l2 c2 : Nat} {xs ys : List GInstrument} {f : Value} (S1 : SlR rInstrument h b1 l1 c1 xs) (S2 : SlR rInstrument h b2 l2 c2 ys) (T : Tells2 prg rInstrument f) :
    CALL prg f_slices_EqualFunc_sl_impl_Instrument_sl_impl_Instrument_impl_Instrument_impl_Instrument #[.slice b1 l1 c1, .slice b2 l2 c2, f] (fun u h' => u = .bool (same xs ys) ∧ Ext h h') h := by
  have e1 := S1.len
  have e2 := S2.len
  have h2 := S1.2.1
  have h3 := S1.2.2.1
  have := maxLen_lt
  refine slices_EqualFunc_sl_impl_Instrument_sl_impl_Instrument_impl_Instrument_impl_Instrument.call (br (fun hb => ⟨by rw [same_len (by simp at hb; omega)], Ext.refl _⟩) fun hb => ?_)
  obtain rfl : l1 = l2 := by simp at hb; omega
  refine loop (fun x hh => ∃ n : Nat, x = (b2, l1, c2, f, b1, l1, c1, (l1 : Int), (n : Int)) ∧ n ≤ l1 ∧ Ext h hh ∧ ∀ i, i < n → same xs[i]! ys[i]! = true) (fun x => (l1 - x.2.2.2.2.2.2.2.2).toNat) ⟨0, rfl, by omega, Ext.refl _, fun i hi => by omega⟩ ?_
  rintro x hh ⟨n, rfl, hn, X, hs⟩
  refine brd (fun hc => ?_) fun hc => ⟨by rw [same_all (by omega) fun i hi => hs i (by omega)], X⟩
  refine (S1.ext X).idx (by decide) (by omega) (by omega) fun a Ra => Ra.lda1 rfl fun ca R1 => (Mem.start hh).alc fun g1 h4 x4 M => M.sta0 .here (rsz R1 rfl) (rInstrument.rone R1) rfl .here fun h5 M => ?_
  refine (S2.ext (X.trans M.ext)).idx (by decide) (by omega) (by omega) fun a' Rb => Rb.lda1 rfl fun cb R2 => (Mem.start h5).alc fun g2 h6 x6 N => N.sta0 .here (rsz R2 rfl) (rInstrument.rone R2) rfl .here fun h7 N => ?_
  have M := M.join N
  refine M.lda0 (.there .here) (rsz R1 rfl) (M.lda0 .here (rsz R2 rfl) (goD (X.trans M.ext) (T _ _ _ _ _ (rInstrument.ext M.ext R1) (rInstrument.ext (N.ext) R2)) fun h8 x8 => as_b (br (fun hb => ⟨?_, x8⟩) fun hb => ?_)))
  · rw [same_at (nt hb)]
  · refine ⟨⟨n + 1, by rw [wrap64_succ (by omega)], by omega, x8, fun i hi => ?_⟩, by rw [wrap64_succ (by omega)]; show _ < _; simp; omega⟩
    by_cases e : i = n
    · subst e; exact nf hb
    · exact hs i (by omega)
end
end Go.Sx
