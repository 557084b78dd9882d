/- Players compared. -/
import Derived.Test.YtjoajnmhdobbfaaLk20
import Derived.Test.YtjoajnmhdobbfaaLk22
import Derived.Test.YtjoajnmhdobbfaaSamePlayer
set_option linter.unusedVariables false
set_option linter.unusedSimpArgs false
namespace Go.Sx
open Go.Proofs
set_option maxRecDepth 100000
set_option maxHeartbeats 1000000

section
variable {h : Heap}
theorem SamePlayer_J3 {p q : Addr} {x y : GPlayer} {h0 h1 : Heap} (A : ∀ {hh : Heap}, Ext h1 hh → RdP rPlayer hh p x) (B : ∀ {hh : Heap}, Ext h1 hh → RdP rPlayer hh q y) (E : Ext h1 h) (X0 : Ext h0 h1) (hl : x.Voices.length = y.Voices.length) (k : same x y = same x.Voices y.Voices) :
    spec_SamePlayer.J3 (fun u h' => u = .bool (same x y) ∧ Ext h0 h') p q h := by
  unfold spec_SamePlayer.J3
  rw [k]
  refine loop (fun z hh => ∃ n : Nat, z = (p, q, (n : Int)) ∧ n ≤ x.Voices.length ∧ Ext h1 hh ∧ ∀ i, i < n → same x.Voices[i]! y.Voices[i]! = true) (fun z => (x.Voices.length - z.2.2).toNat) ⟨0, rfl, by omega, E, fun i hi => by omega⟩ ?_
  rintro z hh ⟨n, rfl, hn, X, hs⟩
  refine (A X).oL fun b1 l1 c1 S1 => ?_
  have e1 := S1.len
  have hm := S1.2.1
  have hm2 := S1.2.2.1
  have hm3 := maxLen_lt
  refine brd (fun hc => ?_) fun hc => ⟨by rw [same_all hl fun i hi => hs i (by omega)], X0.trans X⟩
  refine (A X).oL fun b1 l1' c1 S1 => ?_
  have e1' := S1.len
  refine S1.idx (by decide) (by omega) (by omega) fun a Ra => (B X).oL fun b2 l2 c2 S2 => ?_
  have e2 := S2.len
  refine S2.idx (by decide) (by omega) (by omega) fun a' Rb => goE X (l09SameVoice_c Ra Rb) fun h8 X => as_b (br (fun hb => ⟨?_, X0.trans X⟩) fun hb => ?_)
  · have hb : same x.Voices[n]! y.Voices[n]! = false := nt hb
    rw [same_at hb]
  · have hb : same x.Voices[n]! y.Voices[n]! = true := nf hb
    refine ⟨⟨n + 1, by rw [wrap64_succ (by omega)], by omega, X, fun i hi => ?_⟩, by rw [wrap64_succ (by omega)]; show _ < _; simp; omega⟩
    by_cases e : i = n
    · subst e; exact hb
    · exact hs i (by omega)
theorem spec_SamePlayer_c {ca cb : Array Value} {x y : GPlayer} (Ra : rPlayer.rd h ca.toList x) (Rb : rPlayer.rd h cb.toList y) : CALL prg f_spec_SamePlayer #[.agg ca, .agg cb] (fun u h' => u = .bool (same x y) ∧ Ext h h') h := by
  refine spec_SamePlayer.call (alcR Ra fun g1 h1 x1 A => alcR (rPlayer.ext x1 Rb) fun g2 h2 x2 B0 => ?_)
  have A0 := A.ext x2
  have X0 := x1.trans x2
  have E0 := Ext.refl h2
  have A : ∀ {hh : Heap}, Ext h2 hh → RdP rPlayer hh ⟨g1, 0, none⟩ x := fun e => A0.ext e
  have B : ∀ {hh : Heap}, Ext h2 hh → RdP rPlayer hh ⟨g2, 0, none⟩ y := fun e => B0.ext e
  (repeat' (first
    | exact SamePlayer_J3 A B (by assumption) X0 (by have h1 := SlR.len (by assumption : SlR rVoice _ _ _ _ x.Voices); have h2 := SlR.len (by assumption : SlR rVoice _ _ _ _ y.Voices); simp only [beq_iff_eq] at *; omega) (by rw [same_Player]; simp [*])
    | exact ⟨by rw [same_Player, same_len (xs := x.Voices) (by have h1 := SlR.len (by assumption : SlR rVoice _ _ _ _ x.Voices); have h2 := SlR.len (by assumption : SlR rVoice _ _ _ _ y.Voices); simp at hb; omega)]; simp, X0.trans (by assumption)⟩
    | exact (Bool.false_ne_true hb).elim
    | refine as_b ?_
    | refine pin_same ?_
    | refine RdP.lda2 (A (by assumption)) foc_Player_Score rfl fun _ _ => ?_
    | refine RdP.oL2 (A (by assumption)) fun _ _ _ _ => ?_
    | refine RdP.oI2 (A (by assumption)) ?_
    | refine RdP.lda2 (B (by assumption)) foc_Player_Score rfl fun _ _ => ?_
    | refine RdP.oL2 (B (by assumption)) fun _ _ _ _ => ?_
    | refine RdP.oI2 (B (by assumption)) ?_
    | refine RdP.lda1 (A (by assumption)) rfl fun _ _ => ?_
    | refine RdP.lda1 (B (by assumption)) rfl fun _ _ => ?_
    | refine goE (by assumption) (spec_SameScore_c (by assumption) (by assumption)) fun _ _ => ?_
    | refine brN (fun hb => ?_) (fun hb => ?_)
    | refine br (fun hb => ?_) (fun hb => ?_)
    | exact ⟨by rw [same_Player]; simp [*], X0.trans (by assumption)⟩))
theorem SamePlayer_c {ca cb : Array Value} {x y : GPlayer} (Ra : rPlayer.rd h ca.toList x) (Rb : rPlayer.rd h cb.toList y) : CALL prg f_impl_SamePlayer #[.agg ca, .agg cb] (fun u h' => u = .bool (same x y) ∧ Ext h h') h := by
  refine impl_SamePlayer.call (alcR Ra fun g1 h1 x1 A => alcR (rPlayer.ext x1 Rb) fun g2 h2 x2 B0 => ?_)
  have A0 := A.ext x2
  have X0 := x1.trans x2
  have E0 := Ext.refl h2
  have A : ∀ {hh : Heap}, Ext h2 hh → RdP rPlayer hh ⟨g1, 0, none⟩ x := fun e => A0.ext e
  have B : ∀ {hh : Heap}, Ext h2 hh → RdP rPlayer hh ⟨g2, 0, none⟩ y := fun e => B0.ext e
  (repeat' (first
    | exact (Bool.false_ne_true hb).elim
    | refine as_b ?_
    | refine pin_same ?_
    | refine RdP.lda2 (A (by assumption)) foc_Player_Score rfl fun _ _ => ?_
    | refine RdP.oL2 (A (by assumption)) fun _ _ _ _ => ?_
    | refine RdP.oI2 (A (by assumption)) ?_
    | refine RdP.lda2 (B (by assumption)) foc_Player_Score rfl fun _ _ => ?_
    | refine RdP.oL2 (B (by assumption)) fun _ _ _ _ => ?_
    | refine RdP.oI2 (B (by assumption)) ?_
    | refine RdP.lda1 (A (by assumption)) rfl fun _ _ => ?_
    | refine RdP.lda1 (B (by assumption)) rfl fun _ _ => ?_
    | refine goE (by assumption) (SameScore_c (by assumption) (by assumption)) fun _ _ => ?_
    | refine goE (by assumption) (EqualFunc_Voice_c (by assumption) (by assumption) tells_Voice) fun _ _ => ?_
    | refine brN (fun hb => ?_) (fun hb => ?_)
    | refine br (fun hb => ?_) (fun hb => ?_)
    | exact ⟨by rw [same_Player]; simp [*], X0.trans (by assumption)⟩))
end
end Go.Sx
