/- The rule's comparisons of scores and voices. -/
import Derived.Test.YtjoajnmhdobbfaaLk19
set_option linter.unusedVariables false
set_option linter.unusedSimpArgs false
namespace Go.Sx
open Go.Proofs
set_option maxRecDepth 100000
set_option maxHeartbeats 1000000

section
variable {h : Heap}
theorem SameScore_J3 {p q : Addr} {x y : GScore} {h0 h1 : Heap} (A : ∀ {hh : Heap}, Ext h1 hh → RdP rScore hh p x) (B : ∀ {hh : Heap}, Ext h1 hh → RdP rScore hh q y) (E : Ext h1 h) (X0 : Ext h0 h1) (hl : x.Events.length = y.Events.length) (k : same x y = same x.Events y.Events) :
    spec_SameScore.J3 (fun u h' => u = .bool (same x y) ∧ Ext h0 h') p q h := by
  unfold spec_SameScore.J3
  rw [k]
  refine loop (fun z hh => ∃ n : Nat, z = (p, q, (n : Int)) ∧ n ≤ x.Events.length ∧ Ext h1 hh ∧ ∀ i, i < n → same x.Events[i]! y.Events[i]! = true) (fun z => (x.Events.length - z.2.2).toNat) ⟨0, rfl, by omega, E, fun i hi => by omega⟩ ?_
  rintro z hh ⟨n, rfl, hn, X, hs⟩
  refine (A X).oL fun b1 l1 c1 S1 => ?_
  have e1 := S1.len
  have hm := S1.2.1
  have hm2 := S1.2.2.1
  have hm3 := maxLen_lt
  refine brd (fun hc => ?_) fun hc => ⟨by rw [same_all hl fun i hi => hs i (by omega)], X0.trans X⟩
  refine (A X).oL fun b1 l1' c1 S1 => ?_
  have e1' := S1.len
  refine S1.idx (by decide) (by omega) (by omega) fun a Ra => Ra.lda1 rfl fun ca R1 => (Mem.start hh).alc fun g1 h4 x4 M => M.sta0 .here (rsz R1 rfl) (rEvent.rone R1) rfl .here fun h5 M => (B (X.trans M.ext)).oL fun b2 l2 c2 S2 => ?_
  have e2 := S2.len
  refine S2.idx (by decide) (by omega) (by omega) fun a' Rb => Rb.lda1 rfl fun cb R2 => (Mem.start h5).alc fun g2 h6 x6 N => N.sta0 .here (rsz R2 rfl) (rEvent.rone R2) rfl .here fun h7 N => ?_
  have M := M.join N
  have A1 : RdP rEvent h7 ⟨g1, 0, none⟩ x.Events[n]! := M.rdp (.there .here) (rEvent.ext M.ext R1)
  have B1 : RdP rEvent h7 ⟨g2, 0, none⟩ y.Events[n]! := M.rdp .here (rEvent.ext N.ext R2)
  have X := X.trans M.ext
  have no : ∀ {h' : Heap}, Ext h1 h' → same x.Events[n]! y.Events[n]! = false → (Value.bool false = .bool (same x.Events y.Events) ∧ Ext h0 h') := fun e hb => ⟨by rw [same_at hb], X0.trans e⟩
  have d1 := same_Event x.Events[n]! y.Events[n]!
  simp only [bne]
  refine A1.oI2 (B1.oI2 (br (fun hb => no X (by rw [d1, nt hb]; rfl)) fun k1 => ?_))
  refine A1.oI2 (B1.oI2 (br (fun hb => no X (by rw [d1, nf k1, nt hb]; rfl)) fun k2 => ?_))
  refine A1.oI2 (B1.oI2 (br (fun hb => no X (by rw [d1, nf k1, nf k2, nt hb]; rfl)) fun k3 => ?_))
  refine A1.oI2 (B1.oI2 (br (fun hb => no X (by rw [d1, nf k1, nf k2, nf k3, nt hb]; rfl)) fun k4 => ?_))
  refine A1.oI2 (B1.oI2 (br (fun hb => no X (by rw [d1, nf k1, nf k2, nf k3, nf k4, nt hb]; rfl)) fun k5 => ?_))
  refine A1.oF2 fun w1 j1 => B1.oF2 fun w2 j2 => goE X (l01Same_c j1 j2 _) fun h8 X => as_b (br (fun hb => no X (by rw [d1, nf k1, nf k2, nf k3, nf k4, nf k5, nt hb]; rfl)) fun k6 => ?_)
  refine ⟨⟨n + 1, by rw [wrap64_succ (by omega)], by omega, X, fun i hi => ?_⟩, by rw [wrap64_succ (by omega)]; show _ < _; simp; omega⟩
  by_cases e : i = n
  · subst e; rw [d1, nf k1, nf k2, nf k3, nf k4, nf k5, nf k6]; rfl
  · exact hs i (by omega)
theorem spec_SameScore_c {ca cb : Array Value} {x y : GScore} (Ra : rScore.rd h ca.toList x) (Rb : rScore.rd h cb.toList y) : CALL prg f_spec_SameScore #[.agg ca, .agg cb] (fun u h' => u = .bool (same x y) ∧ Ext h h') h := by
  refine spec_SameScore.call (alcR Ra fun g1 h1 x1 A => alcR (rScore.ext x1 Rb) fun g2 h2 x2 B0 => ?_)
  have A0 := A.ext x2
  have X0 := x1.trans x2
  have E0 := Ext.refl h2
  have A : ∀ {hh : Heap}, Ext h2 hh → RdP rScore hh ⟨g1, 0, none⟩ x := fun e => A0.ext e
  have B : ∀ {hh : Heap}, Ext h2 hh → RdP rScore hh ⟨g2, 0, none⟩ y := fun e => B0.ext e
  (repeat' (first
    | exact SameScore_J3 A B (by assumption) X0 (by have h1 := SlR.len (by assumption : SlR rEvent _ _ _ _ x.Events); have h2 := SlR.len (by assumption : SlR rEvent _ _ _ _ y.Events); simp at hb; omega) (by rw [same_Score]; simp [*])
    | exact ⟨by rw [same_Score, same_len (xs := x.Events) (by have h1 := SlR.len (by assumption : SlR rEvent _ _ _ _ x.Events); have h2 := SlR.len (by assumption : SlR rEvent _ _ _ _ y.Events); simp at hb; omega)]; simp, X0.trans (by assumption)⟩
    | exact (Bool.false_ne_true hb).elim
    | refine as_b ?_
    | refine pin_same ?_
    | refine RdP.oF2 (A (by assumption)) fun _ _ => ?_
    | refine RdP.lda2 (A (by assumption)) foc_Score_Tuning rfl fun _ _ => ?_
    | refine RdP.oL2 (A (by assumption)) fun _ _ _ _ => ?_
    | refine RdP.oF2 (B (by assumption)) fun _ _ => ?_
    | refine RdP.lda2 (B (by assumption)) foc_Score_Tuning rfl fun _ _ => ?_
    | refine RdP.oL2 (B (by assumption)) fun _ _ _ _ => ?_
    | refine RdP.lda1 (A (by assumption)) rfl fun _ _ => ?_
    | refine RdP.lda1 (B (by assumption)) rfl fun _ _ => ?_
    | refine goE (by assumption) (l01Same_c (by assumption) (by assumption) _) fun _ _ => ?_
    | refine goE (by assumption) (spec_SameTuning_c (by assumption) (by assumption)) fun _ _ => ?_
    | refine goE (by assumption) (l08SameInstruments_c (by assumption) (by assumption)) fun _ _ => ?_
    | refine brN (fun hb => ?_) (fun hb => ?_)
    | refine br (fun hb => ?_) (fun hb => ?_)
    | exact ⟨by rw [same_Score]; simp [*], X0.trans (by assumption)⟩))
theorem l09SameVoice_c {p q : Addr} {x y : GVoice} (A0 : RdP rVoice h p x) (B0 : RdP rVoice h q y) : CALL prg f_spec_l09SameVoice #[.pointer (some p), .pointer (some q)] (fun u h' => u = .bool (same x y) ∧ Ext h h') h := by
  have X0 := Ext.refl h
  have E0 := Ext.refl h
  have A : ∀ {hh : Heap}, Ext h hh → RdP rVoice hh p x := fun e => A0.ext e
  have B : ∀ {hh : Heap}, Ext h hh → RdP rVoice hh q y := fun e => B0.ext e
  refine spec_l09SameVoice.call ?_
  unfold spec_l09SameVoice.S
  (repeat' (first
    | exact (Bool.false_ne_true hb).elim
    | refine as_b ?_
    | refine pin_same ?_
    | refine RdP.oI1 (A (by assumption)) ?_
    | refine RdP.oI (A (by assumption)) ?_
    | refine RdP.oB (A (by assumption)) ?_
    | refine RdP.oF (A (by assumption)) fun _ _ => ?_
    | refine RdP.lda (A (by assumption)) foc_Voice_String rfl fun _ _ => ?_
    | refine RdP.lda (A (by assumption)) foc_Voice_Pipe rfl fun _ _ => ?_
    | refine RdP.lda (A (by assumption)) foc_Voice_Bow rfl fun _ _ => ?_
    | refine RdP.oI1 (B (by assumption)) ?_
    | refine RdP.oI (B (by assumption)) ?_
    | refine RdP.oB (B (by assumption)) ?_
    | refine RdP.oF (B (by assumption)) fun _ _ => ?_
    | refine RdP.lda (B (by assumption)) foc_Voice_String rfl fun _ _ => ?_
    | refine RdP.lda (B (by assumption)) foc_Voice_Pipe rfl fun _ _ => ?_
    | refine RdP.lda (B (by assumption)) foc_Voice_Bow rfl fun _ _ => ?_
    | refine RdP.lda1 (A (by assumption)) rfl fun _ _ => ?_
    | refine RdP.lda1 (B (by assumption)) rfl fun _ _ => ?_
    | refine goE (by assumption) (l01Same_c (by assumption) (by assumption) _) fun _ _ => ?_
    | refine goE (by assumption) (spec_SameString_c (by assumption) (by assumption)) fun _ _ => ?_
    | refine goE (by assumption) (l04Same_c ((A (by assumption)).foc foc_Voice_Pipe) ((B (by assumption)).foc foc_Voice_Pipe)) fun _ _ => ?_
    | refine goE (by assumption) (l05SameBow_c ((A (by assumption)).foc foc_Voice_Bow) ((B (by assumption)).foc foc_Voice_Bow)) fun _ _ => ?_
    | refine brN (fun hb => ?_) (fun hb => ?_)
    | refine br (fun hb => ?_) (fun hb => ?_)
    | exact ⟨by rw [same_Voice]; simp [*], X0.trans (by assumption)⟩))
end
end Go.Sx
