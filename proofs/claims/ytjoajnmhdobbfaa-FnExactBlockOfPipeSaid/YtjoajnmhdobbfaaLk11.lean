/- Pipes: valid ones, as the rule tells them. -/
import Derived.Test.YtjoajnmhdobbfaaLk10
import Derived.Test.YtjoajnmhdobbfaaLr3
set_option linter.unusedVariables false
set_option linter.unusedSimpArgs false
namespace Go.Sx
open Go.Proofs
set_option maxRecDepth 100000
set_option maxHeartbeats 1000000

section
variable {h : Heap} {q : Addr} {x : GPipe}
theorem fwneg : FW .f32 3212836864 neg32 := fw_c32 (by decide) (by decide)
theorem pipe_ok (x : GPipe) : x.ok = (inR x.n 1 3 && decide (x.Left.length = x.n) && decide (x.Scatter.length + 1 = x.n) && x.Right.all GRing.okf && x.Left.all GRing.okf && ((List.range x.n).all fun i => x.Right[i]!.Samples.length == x.Left[i]!.Samples.length) &&
    (x.Scatter.all fun k => inside k neg32 one32) && x.End.ok && (x.End.Kind == 1) && fin x.Loss && fin x.Rest && fin x.Slope) := rfl
theorem l04Ok_c (R : RdP rPipe h q x) : CALL prg f_spec_l04Ok #[.pointer (some q)] (fun u h' => u = .bool x.ok ∧ Ext h h') h := by
  have E0 := Ext.refl h
  refine spec_l04Ok.call (R.oL1 fun b1 l1 c1 S1 => ?_)
  have hl1 : x.Right.length = l1 := S1.len
  have hn : x.n = l1 := hl1
  have k1 := S1.2.1
  have k2 := S1.2.2.1
  have k3 := maxLen_lt
  refine brd (fun hc => ⟨?_, E0⟩) fun hc => brd (fun hc2 => ⟨?_, E0⟩) fun hc2 => R.oL fun b4 l4 c4 S4 => ?_
  · rw [pipe_ok, show inR x.n 1 3 = false by unfold inR; simp only [Bool.and_eq_false_iff, decide_eq_false_iff_not]; omega]; rfl
  · rw [pipe_ok, show inR x.n 1 3 = false by unfold inR; simp only [Bool.and_eq_false_iff, decide_eq_false_iff_not]; omega]; rfl
  have hl4 : x.Left.length = l4 := S4.len
  have h1 : inR x.n 1 3 = true := by unfold inR; simp only [Bool.and_eq_true, decide_eq_true_eq]; omega
  refine br (fun hb => ⟨?_, E0⟩) fun hb => ?_
  · have : decide (x.Left.length = x.n) = false := by simp only [decide_eq_false_iff_not]; simp at hb; omega
    rw [pipe_ok, this]; simp
  have e4 : l4 = l1 := by simp at hb; omega
  have h2 : decide (x.Left.length = x.n) = true := by simp only [decide_eq_true_eq]; omega
  refine R.oL fun b7 l7 c7 S7 => ?_
  have hl7 : x.Scatter.length = l7 := S7.len
  rw [wrap64 (n := (l1 : Int) - 1) (by omega) (by omega)]
  refine br (fun hb => ⟨?_, E0⟩) fun hb => ?_
  · have : decide (x.Scatter.length + 1 = x.n) = false := by simp only [decide_eq_false_iff_not]; simp at hb; omega
    rw [pipe_ok, this]; simp
  have e7 : l7 + 1 = l1 := by simp at hb; omega
  have h3 : decide (x.Scatter.length + 1 = x.n) = true := by simp only [decide_eq_true_eq]; omega
  refine R.oL1 fun b1 l1' c1 S1' => goX (l04Rings_c S1') fun ha xa => as_b (br (fun hb => ⟨?_, xa⟩) fun hb => ?_)
  · rw [pipe_ok, nt hb]; simp
  have h4 := nf hb
  refine (R.ext xa).oL fun b4 l4' c4 S4' => goX (l04Rings_c S4') fun hd xb => as_b (br (fun hb => ⟨?_, xa.trans xb⟩) fun hb => ?_)
  · rw [pipe_ok, nt hb]; simp
  have h5 := nf hb
  unfold spec_l04Ok.J4
  have X := xa.trans xb
  refine loop (fun y hh => ∃ n : Nat, y = (q, (l1 : Int), (n : Int)) ∧ n ≤ l1 ∧ hh = hd ∧ ∀ i, i < n → (x.Right[i]!.Samples.length == x.Left[i]!.Samples.length) = true) (fun y => (l1 - y.2.2).toNat) ⟨0, rfl, by omega, rfl, fun i hi => by omega⟩ ?_
  rintro y hh ⟨n, rfl, hn', rfl, hz⟩
  refine brd (fun hc => ?_) fun hc => ?_
  · refine (R.ext X).oL1 fun b l c S => ?_
    have hlS := S.len
    refine S.idx ring_sz (by omega) (by omega) fun p Rp => Rp.oL1 fun b2 l2 c2 S2 => (R.ext X).oL fun b3 l3 c3 S3 => ?_
    have hlS3 := S3.len
    refine S3.idx ring_sz (by omega) (by omega) fun p Rp => Rp.oL1 fun b5 l5 c5 S5 => ?_
    have f2 : x.Right[n]!.Samples.length = l2 := S2.len
    have f5 : x.Left[n]!.Samples.length = l5 := S5.len
    refine br (fun hb => ⟨?_, X⟩) fun hb => ?_
    · have : (x.Right[n]!.Samples.length == x.Left[n]!.Samples.length) = false := by rw [f2, f5]; simp at hb ⊢; omega
      rw [pipe_ok, all_false (f := fun i => x.Right[i]!.Samples.length == x.Left[i]!.Samples.length) (i := n) (by omega) this]; simp
    · refine ⟨⟨n + 1, by rw [wrap64_succ (by omega)], by omega, rfl, fun i hi => ?_⟩, by rw [wrap64_succ (by omega)]; show _ < _; simp; omega⟩
      by_cases e : i = n
      · subst e; rw [f2, f5]; simp at hb ⊢; omega
      · exact hz i (by omega)
  have h6 : ((List.range x.n).all fun i => x.Right[i]!.Samples.length == x.Left[i]!.Samples.length) = true := all_true fun i hi => hz i (by omega)
  refine loop (fun y hh' => ∃ n : Nat, y = (q, (l1 : Int), (n : Int)) ∧ n ≤ l7 ∧ hh' = hh ∧ ∀ i, i < n → inside x.Scatter[i]! neg32 one32 = true) (fun y => (l7 - y.2.2).toNat) ⟨0, rfl, by omega, rfl, fun i hi => by omega⟩ ?_
  rintro y hh' ⟨n, rfl, hn'', rfl, hz2⟩
  rw [spec_l04Ok.B10, wrap64 (n := (l1 : Int) - 1) (by omega) (by omega)]
  have no : inside x.Scatter[n]! neg32 one32 = false → n < l7 → (Value.bool false = .bool x.ok ∧ Ext h hh') := fun e hlt => ⟨by
    rw [pipe_ok, all_range (fun k => inside k neg32 one32), all_false (f := fun i => inside x.Scatter[i]! neg32 one32) (i := n) (by omega) e]; simp, X⟩
  refine brd (fun hc => ?_) fun hc => ?_
  · refine (R.ext X).oL fun b l c S => ?_
    have hlS := S.len
    refine S.idx (by decide) (by omega) (by omega) fun p Rp => Rp.oF1 fun y hy => ?_
    rw [ord_eq hy fwneg]
    refine br (fun hb => (R.ext X).oL fun b2 l2 c2 S2 => ?_) fun hb => no ?_ (by omega)
    · have hlS2 := S2.len
      refine S2.idx (by decide) (by omega) (by omega) fun p2 Rp2 => Rp2.oF1 fun z hz3 => ?_
      rw [ord_eq hz3 fwone]
      have hb : fge .f32 x.Scatter[n]! neg32 = true := hb
      refine br (fun hb2 => no ?_ (by omega)) fun hb2 => ?_
      · have hb2 : fle .f32 x.Scatter[n]! one32 = false := nt hb2
        unfold inside; rw [hb2, Bool.and_false]
      · have hb2 : fle .f32 x.Scatter[n]! one32 = true := nf hb2
        refine ⟨⟨n + 1, by rw [wrap64_succ (by omega)], by omega, rfl, fun i hi => ?_⟩, by rw [wrap64_succ (by omega)]; show _ < _; simp; omega⟩
        by_cases e : i = n
        · subst e; unfold inside; rw [hb, hb2]; rfl
        · exact hz2 i (by omega)
    · have hb : fge .f32 x.Scatter[n]! neg32 = false := hb
      unfold inside; rw [hb, Bool.false_and]
  have h7 : (x.Scatter.all fun k => inside k neg32 one32) = true := by rw [all_range (fun k => inside k neg32 one32), all_true fun i hi => hz2 i (by omega)]
  refine goX (l02Ok_c ((R.ext X).foc foc_Pipe_End)) fun he xe => as_b (br (fun hb => ?_) fun hb => ⟨?_, X.trans xe⟩)
  · have RE := R.ext (X.trans xe)
    refine RE.oI (br (fun hk => ?_) fun hk => ⟨?_, X.trans xe⟩)
    · refine RE.oF fun y1 j1 => RE.oF fun y2 j2 => RE.oF fun y3 j3 => ?_
      refine rArr_slr (r := rF .f32) (n := 3) (xs := [x.Loss, x.Rest, x.Slope]) ⟨rfl, [_], _, rfl, ⟨_, rfl, j1⟩, [_], _, rfl, ⟨_, rfl, j2⟩, [_], _, rfl, ⟨_, rfl, j3⟩, rfl⟩ (by decide) fun g' h4' x4 S => ?_
      refine goX (l04All_c S) fun h5' x5 => as_b ⟨?_, ((X.trans xe).trans x4).trans x5⟩
      have hk : (x.End.Kind == 1) = true := hk
      rw [pipe_ok, h1, h2, h3, h4, h5, h6, h7, hb, hk]; simp [allFin, Bool.and_assoc]
    · have hk : (x.End.Kind == 1) = false := hk
      rw [pipe_ok, hk]; simp
  · rw [pipe_ok, hb]; simp
end
end Go.Sx
