/- The program's comparisons of scores and voices. -/
import Derived.Test.YtjoajnmhdobbfaaLk21
set_option linter.unusedVariables false
set_option linter.unusedSimpArgs false
namespace Go.Sx
open Go.Proofs
set_option maxRecDepth 100000
set_option maxHeartbeats 1000000

section
variable {h : Heap}
theorem sameInstruments_c {b1 b2 : Option Addr} {l1 c1 l2 c2 : Nat} {xs ys : List GInstrument} (S1 : SlR rInstrument h b1 l1 c1 xs) (S2 : SlR rInstrument h b2 l2 c2 ys) :
    CALL prg f_impl_sameInstruments #[.slice b1 l1 c1, .slice b2 l2 c2] (fun u h' => u = .bool (same xs ys) ∧ Ext h h') h := impl_sameInstruments.call (goX (EqualFunc_Instrument_c S1 S2 tells_Instrument) fun h' x => as_b ⟨rfl, x⟩)
theorem sameGround_c {ca cb : Array Value} {x y : GScore} (Ra : rScore.rd h ca.toList x) (Rb : rScore.rd h cb.toList y) : CALL prg f_impl_sameGround #[.agg ca, .agg cb] (fun u h' => u = .bool ((x.Rate == y.Rate) && same x.Tuning y.Tuning && same x.Instruments y.Instruments) ∧ Ext h h') h := by
  refine impl_sameGround.call (alcR Ra fun g1 h1 x1 A => alcR (rScore.ext x1 Rb) fun g2 h2 x2 B0 => ?_)
  have A0 := A.ext x2
  have X0 := x1.trans x2
  have E0 := Ext.refl h2
  have A : ∀ {hh : Heap}, Ext h2 hh → RdP rScore hh ⟨g1, 0, none⟩ x := fun e => A0.ext e
  have B : ∀ {hh : Heap}, Ext h2 hh → RdP rScore hh ⟨g2, 0, none⟩ y := fun e => B0.ext e
  (repeat' (first
    | exact (Bool.false_ne_true hb).elim
    | refine as_b ?_
    | refine pin_same ?_
    | refine RdP.oF2 (A (by assumption)) fun _ _ => ?_
    | refine RdP.lda2 (A (by assumption)) foc_Score_Tuning rfl fun _ _ => ?_
    | refine RdP.oL2 (A (by assumption)) fun _ _ _ _ => ?_
    | refine RdP.oF2 (B (by assumption)) fun _ _ => ?_
    | refine RdP.lda2 (B (by assumption)) foc_Score_Tuning rfl fun _ _ => ?_
    | refine RdP.oL2 (B (by assumption)) fun _ _ _ _ => ?_
    | refine RdP.lda1 (A (by assumption)) rfl fun _ _ => ?_
    | refine RdP.lda1 (B (by assumption)) rfl fun _ _ => ?_
    | refine goE (by assumption) (SameSample_c (by assumption) (by assumption) _) fun _ _ => ?_
    | refine goE (by assumption) (SameTuning_c (by assumption) (by assumption)) fun _ _ => ?_
    | refine goE (by assumption) (sameInstruments_c (by assumption) (by assumption)) fun _ _ => ?_
    | refine brN (fun hb => ?_) (fun hb => ?_)
    | refine br (fun hb => ?_) (fun hb => ?_)
    | exact ⟨by simp [*], X0.trans (by assumption)⟩))
theorem SameScore_c {ca cb : Array Value} {x y : GScore} (Ra : rScore.rd h ca.toList x) (Rb : rScore.rd h cb.toList y) : CALL prg f_impl_SameScore #[.agg ca, .agg cb] (fun u h' => u = .bool (same x y) ∧ Ext h h') h := by
  refine impl_SameScore.call (alcR Ra fun g1 h1 x1 A => alcR (rScore.ext x1 Rb) fun g2 h2 x2 B0 => ?_)
  have A0 := A.ext x2
  have X0 := x1.trans x2
  have E0 := Ext.refl h2
  have A : ∀ {hh : Heap}, Ext h2 hh → RdP rScore hh ⟨g1, 0, none⟩ x := fun e => A0.ext e
  have B : ∀ {hh : Heap}, Ext h2 hh → RdP rScore hh ⟨g2, 0, none⟩ y := fun e => B0.ext e
  (repeat' (first
    | exact (Bool.false_ne_true hb).elim
    | refine as_b ?_
    | refine pin_same ?_
    | refine RdP.oF2 (A (by assumption)) fun _ _ => ?_
    | refine RdP.lda2 (A (by assumption)) foc_Score_Tuning rfl fun _ _ => ?_
    | refine RdP.oL2 (A (by assumption)) fun _ _ _ _ => ?_
    | refine RdP.oF2 (B (by assumption)) fun _ _ => ?_
    | refine RdP.lda2 (B (by assumption)) foc_Score_Tuning rfl fun _ _ => ?_
    | refine RdP.oL2 (B (by assumption)) fun _ _ _ _ => ?_
    | refine RdP.lda1 (A (by assumption)) rfl fun _ _ => ?_
    | refine RdP.lda1 (B (by assumption)) rfl fun _ _ => ?_
    | refine goE (by assumption) (sameGround_c (by assumption) (by assumption)) fun _ _ => ?_
    | refine goE (by assumption) (EqualFunc_Event_c (by assumption) (by assumption) tells_Event) fun _ _ => ?_
    | refine brN (fun hb => ?_) (fun hb => ?_)
    | refine br (fun hb => ?_) (fun hb => ?_)
    | exact ⟨by rw [same_Score]; simp [*], X0.trans (by assumption)⟩))
theorem SameString_c {ca cb : Array Value} {x y : GString} (Ra : rString.rd h ca.toList x) (Rb : rString.rd h cb.toList y) : CALL prg f_impl_SameString #[.agg ca, .agg cb] (fun u h' => u = .bool (same x y) ∧ Ext h h') h := by
  refine impl_SameString.call (alcR Ra fun g1 h1 x1 A => alcR (rString.ext x1 Rb) fun g2 h2 x2 B0 => ?_)
  have A0 := A.ext x2
  have X0 := x1.trans x2
  have E0 := Ext.refl h2
  have A : ∀ {hh : Heap}, Ext h2 hh → RdP rString hh ⟨g1, 0, none⟩ x := fun e => A0.ext e
  have B : ∀ {hh : Heap}, Ext h2 hh → RdP rString hh ⟨g2, 0, none⟩ y := fun e => B0.ext e
  (repeat' (first
    | exact (Bool.false_ne_true hb).elim
    | refine as_b ?_
    | refine pin_same ?_
    | refine RdP.lda2 (A (by assumption)) foc_String_Loop rfl fun _ _ => ?_
    | refine RdP.lda2 (A (by assumption)) foc_String_Tune rfl fun _ _ => ?_
    | refine RdP.lda2 (A (by assumption)) foc_String_Damp rfl fun _ _ => ?_
    | refine RdP.oF2 (A (by assumption)) fun _ _ => ?_
    | refine RdP.lda2 (B (by assumption)) foc_String_Loop rfl fun _ _ => ?_
    | refine RdP.lda2 (B (by assumption)) foc_String_Tune rfl fun _ _ => ?_
    | refine RdP.lda2 (B (by assumption)) foc_String_Damp rfl fun _ _ => ?_
    | refine RdP.oF2 (B (by assumption)) fun _ _ => ?_
    | refine RdP.lda1 (A (by assumption)) rfl fun _ _ => ?_
    | refine RdP.lda1 (B (by assumption)) rfl fun _ _ => ?_
    | refine goE (by assumption) (SameSample_c (by assumption) (by assumption) _) fun _ _ => ?_
    | refine goE (by assumption) (SameRing_c (by assumption) (by assumption)) fun _ _ => ?_
    | refine goE (by assumption) (SameFilter_c (by assumption) (by assumption)) fun _ _ => ?_
    | refine brN (fun hb => ?_) (fun hb => ?_)
    | refine br (fun hb => ?_) (fun hb => ?_)
    | exact ⟨by rw [same_String]; simp [*], X0.trans (by assumption)⟩))
theorem SameBow_c {ca cb : Array Value} {x y : GBow} (Ra : rBow.rd h ca.toList x) (Rb : rBow.rd h cb.toList y) : CALL prg f_impl_SameBow #[.agg ca, .agg cb] (fun u h' => u = .bool (same x y) ∧ Ext h h') h := by
  refine impl_SameBow.call (alcR Ra fun g1 h1 x1 A => alcR (rBow.ext x1 Rb) fun g2 h2 x2 B0 => ?_)
  have A0 := A.ext x2
  have X0 := x1.trans x2
  have E0 := Ext.refl h2
  have A : ∀ {hh : Heap}, Ext h2 hh → RdP rBow hh ⟨g1, 0, none⟩ x := fun e => A0.ext e
  have B : ∀ {hh : Heap}, Ext h2 hh → RdP rBow hh ⟨g2, 0, none⟩ y := fun e => B0.ext e
  (repeat' (first
    | exact (Bool.false_ne_true hb).elim
    | refine as_b ?_
    | refine pin_same ?_
    | refine RdP.lda2 (A (by assumption)) foc_Bow_Neck rfl fun _ _ => ?_
    | refine RdP.lda2 (A (by assumption)) foc_Bow_Bridge rfl fun _ _ => ?_
    | refine RdP.lda2 (A (by assumption)) foc_Bow_Damp rfl fun _ _ => ?_
    | refine RdP.oF2 (A (by assumption)) fun _ _ => ?_
    | refine RdP.lda2 (B (by assumption)) foc_Bow_Neck rfl fun _ _ => ?_
    | refine RdP.lda2 (B (by assumption)) foc_Bow_Bridge rfl fun _ _ => ?_
    | refine RdP.lda2 (B (by assumption)) foc_Bow_Damp rfl fun _ _ => ?_
    | refine RdP.oF2 (B (by assumption)) fun _ _ => ?_
    | refine RdP.lda1 (A (by assumption)) rfl fun _ _ => ?_
    | refine RdP.lda1 (B (by assumption)) rfl fun _ _ => ?_
    | refine goE (by assumption) (SameSample_c (by assumption) (by assumption) _) fun _ _ => ?_
    | refine goE (by assumption) (SameRing_c (by assumption) (by assumption)) fun _ _ => ?_
    | refine goE (by assumption) (SameFilter_c (by assumption) (by assumption)) fun _ _ => ?_
    | refine brN (fun hb => ?_) (fun hb => ?_)
    | refine br (fun hb => ?_) (fun hb => ?_)
    | exact ⟨by rw [same_Bow]; simp [*], X0.trans (by assumption)⟩))
theorem SamePipe_c {ca cb : Array Value} {x y : GPipe} (Ra : rPipe.rd h ca.toList x) (Rb : rPipe.rd h cb.toList y) : CALL prg f_impl_SamePipe #[.agg ca, .agg cb] (fun u h' => u = .bool (same x y) ∧ Ext h h') h := by
  refine impl_SamePipe.call (alcR Ra fun g1 h1 x1 A => alcR (rPipe.ext x1 Rb) fun g2 h2 x2 B0 => ?_)
  have A0 := A.ext x2
  have X0 := x1.trans x2
  have E0 := Ext.refl h2
  have A : ∀ {hh : Heap}, Ext h2 hh → RdP rPipe hh ⟨g1, 0, none⟩ x := fun e => A0.ext e
  have B : ∀ {hh : Heap}, Ext h2 hh → RdP rPipe hh ⟨g2, 0, none⟩ y := fun e => B0.ext e
  (repeat' (first
    | unfold impl_SamePipe.J2
    | exact (Bool.false_ne_true hb).elim
    | refine as_b ?_
    | refine pin_same ?_
    | refine RdP.oL1 (A (by assumption)) fun _ _ _ _ => ?_
    | refine RdP.oL (A (by assumption)) fun _ _ _ _ => ?_
    | refine RdP.lda (A (by assumption)) foc_Pipe_End rfl fun _ _ => ?_
    | refine RdP.oB (A (by assumption)) ?_
    | refine RdP.oF (A (by assumption)) fun _ _ => ?_
    | refine RdP.oL1 (B (by assumption)) fun _ _ _ _ => ?_
    | refine RdP.oL (B (by assumption)) fun _ _ _ _ => ?_
    | refine RdP.lda (B (by assumption)) foc_Pipe_End rfl fun _ _ => ?_
    | refine RdP.oB (B (by assumption)) ?_
    | refine RdP.oF (B (by assumption)) fun _ _ => ?_
    | refine RdP.lda1 (A (by assumption)) rfl fun _ _ => ?_
    | refine RdP.lda1 (B (by assumption)) rfl fun _ _ => ?_
    | refine goE (by assumption) (SameSample_c (by assumption) (by assumption) _) fun _ _ => ?_
    | refine goE (by assumption) (sameSamples_c (by assumption) (by assumption)) fun _ _ => ?_
    | refine goE (by assumption) (SameFilter_c (by assumption) (by assumption)) fun _ _ => ?_
    | refine goE (by assumption) (EqualFunc_Ring_c (by assumption) (by assumption) tells_Ring) fun _ _ => ?_
    | refine brN (fun hb => ?_) (fun hb => ?_)
    | exact (Bool.false_ne_true hb).elim
    | refine as_b ?_
    | refine pin_same ?_
    | refine RdP.oL2 (A (by assumption)) fun _ _ _ _ => ?_
    | refine RdP.lda2 (A (by assumption)) foc_Pipe_End rfl fun _ _ => ?_
    | refine RdP.oB2 (A (by assumption)) ?_
    | refine RdP.oF2 (A (by assumption)) fun _ _ => ?_
    | refine RdP.oL2 (B (by assumption)) fun _ _ _ _ => ?_
    | refine RdP.lda2 (B (by assumption)) foc_Pipe_End rfl fun _ _ => ?_
    | refine RdP.oB2 (B (by assumption)) ?_
    | refine RdP.oF2 (B (by assumption)) fun _ _ => ?_
    | refine RdP.lda1 (A (by assumption)) rfl fun _ _ => ?_
    | refine RdP.lda1 (B (by assumption)) rfl fun _ _ => ?_
    | refine goE (by assumption) (SameSample_c (by assumption) (by assumption) _) fun _ _ => ?_
    | refine goE (by assumption) (sameSamples_c (by assumption) (by assumption)) fun _ _ => ?_
    | refine goE (by assumption) (SameFilter_c (by assumption) (by assumption)) fun _ _ => ?_
    | refine goE (by assumption) (EqualFunc_Ring_c (by assumption) (by assumption) tells_Ring) fun _ _ => ?_
    | refine brN (fun hb => ?_) (fun hb => ?_)
    | refine br (fun hb => ?_) (fun hb => ?_)
    | exact ⟨by rw [same_Pipe]; simp [*], X0.trans (by assumption)⟩))
theorem sameVoice_c {ca cb : Array Value} {x y : GVoice} (Ra : rVoice.rd h ca.toList x) (Rb : rVoice.rd h cb.toList y) : CALL prg f_impl_sameVoice #[.agg ca, .agg cb] (fun u h' => u = .bool (same x y) ∧ Ext h h') h := by
  refine impl_sameVoice.call (alcR Ra fun g1 h1 x1 A => alcR (rVoice.ext x1 Rb) fun g2 h2 x2 B0 => ?_)
  have A0 := A.ext x2
  have X0 := x1.trans x2
  have E0 := Ext.refl h2
  have A : ∀ {hh : Heap}, Ext h2 hh → RdP rVoice hh ⟨g1, 0, none⟩ x := fun e => A0.ext e
  have B : ∀ {hh : Heap}, Ext h2 hh → RdP rVoice hh ⟨g2, 0, none⟩ y := fun e => B0.ext e
  (repeat' (first
    | exact (Bool.false_ne_true hb).elim
    | refine as_b ?_
    | refine pin_same ?_
    | refine RdP.oI2 (A (by assumption)) ?_
    | refine RdP.oB2 (A (by assumption)) ?_
    | refine RdP.oF2 (A (by assumption)) fun _ _ => ?_
    | refine RdP.lda2 (A (by assumption)) foc_Voice_String rfl fun _ _ => ?_
    | refine RdP.lda2 (A (by assumption)) foc_Voice_Pipe rfl fun _ _ => ?_
    | refine RdP.lda2 (A (by assumption)) foc_Voice_Bow rfl fun _ _ => ?_
    | refine RdP.oI2 (B (by assumption)) ?_
    | refine RdP.oB2 (B (by assumption)) ?_
    | refine RdP.oF2 (B (by assumption)) fun _ _ => ?_
    | refine RdP.lda2 (B (by assumption)) foc_Voice_String rfl fun _ _ => ?_
    | refine RdP.lda2 (B (by assumption)) foc_Voice_Pipe rfl fun _ _ => ?_
    | refine RdP.lda2 (B (by assumption)) foc_Voice_Bow rfl fun _ _ => ?_
    | refine RdP.lda1 (A (by assumption)) rfl fun _ _ => ?_
    | refine RdP.lda1 (B (by assumption)) rfl fun _ _ => ?_
    | refine goE (by assumption) (SameSample_c (by assumption) (by assumption) _) fun _ _ => ?_
    | refine goE (by assumption) (SameString_c (by assumption) (by assumption)) fun _ _ => ?_
    | refine goE (by assumption) (SamePipe_c (by assumption) (by assumption)) fun _ _ => ?_
    | refine goE (by assumption) (SameBow_c (by assumption) (by assumption)) fun _ _ => ?_
    | refine brN (fun hb => ?_) (fun hb => ?_)
    | refine br (fun hb => ?_) (fun hb => ?_)
    | exact ⟨by rw [same_Voice]; simp [*], X0.trans (by assumption)⟩))
theorem tells_Voice : Tells2 prg rVoice (.func (.func f_impl_sameVoice) #[] #[]) := fun ca cb x y h Ra Rb => by
  show CALL prg f_impl_sameVoice #[.agg ca, .agg cb] _ h
  exact sameVoice_c Ra Rb
theorem EqualFunc_Voice_c {b1 b2 : Option Addr} {l1 c1 l2 c2 : Nat} {xs ys : List GVoice} {f : Value} (S1 : SlR rVoice h b1 l1 c1 xs) (S2 : SlR rVoice h b2 l2 c2 ys) (T : Tells2 prg rVoice f) :
    CALL prg f_slices_EqualFunc_sl_impl_Voice_sl_impl_Voice_impl_Voice_impl_Voice #[.slice b1 l1 c1, .slice b2 l2 c2, f] (fun u h' => u = .bool (same xs ys) ∧ Ext h h') h := by
  have e1 := S1.len
  have e2 := S2.len
  have h2 := S1.2.1
  have h3 := S1.2.2.1
  have := maxLen_lt
  refine slices_EqualFunc_sl_impl_Voice_sl_impl_Voice_impl_Voice_impl_Voice.call (br (fun hb => ⟨by rw [same_len (by simp at hb; omega)], Ext.refl _⟩) fun hb => ?_)
  obtain rfl : l1 = l2 := by simp at hb; omega
  refine loop (fun x hh => ∃ n : Nat, x = (b2, l1, c2, f, b1, l1, c1, (l1 : Int), (n : Int)) ∧ n ≤ l1 ∧ Ext h hh ∧ ∀ i, i < n → same xs[i]! ys[i]! = true) (fun x => (l1 - x.2.2.2.2.2.2.2.2).toNat) ⟨0, rfl, by omega, Ext.refl _, fun i hi => by omega⟩ ?_
  rintro x hh ⟨n, rfl, hn, X, hs⟩
  refine brd (fun hc => ?_) fun hc => ⟨by rw [same_all (by omega) fun i hi => hs i (by omega)], X⟩
  refine (S1.ext X).idx (by decide) (by omega) (by omega) fun a Ra => Ra.lda1 rfl fun ca R1 => (Mem.start hh).alc fun g1 h4 x4 M => M.sta0 .here (rsz R1 rfl) (rVoice.rone R1) rfl .here fun h5 M => ?_
  refine (S2.ext (X.trans M.ext)).idx (by decide) (by omega) (by omega) fun a' Rb => Rb.lda1 rfl fun cb R2 => (Mem.start h5).alc fun g2 h6 x6 N => N.sta0 .here (rsz R2 rfl) (rVoice.rone R2) rfl .here fun h7 N => ?_
  have M := M.join N
  refine M.lda0 (.there .here) (rsz R1 rfl) (M.lda0 .here (rsz R2 rfl) (goD (X.trans M.ext) (T _ _ _ _ _ (rVoice.ext M.ext R1) (rVoice.ext (N.ext) R2)) fun h8 x8 => as_b (br (fun hb => ⟨?_, x8⟩) fun hb => ?_)))
  · rw [same_at (nt hb)]
  · refine ⟨⟨n + 1, by rw [wrap64_succ (by omega)], by omega, x8, fun i hi => ?_⟩, by rw [wrap64_succ (by omega)]; show _ < _; simp; omega⟩
    by_cases e : i = n
    · subst e; exact nf hb
    · exact hs i (by omega)
end
end Go.Sx
