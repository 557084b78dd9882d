/- Rings copied in lists; reeds. -/
import Derived.Test.YtnjbecdfoiiaoaaGreatDoorLk3
import Derived.Test.YtnjbecdfoiiaoaaGreatDoorLk21
import Derived.Test.YtnjbecdfoiiaoaaGreatDoorK3
set_option linter.unusedVariables false
set_option linter.unusedSimpArgs false
namespace Go.Sx
open Go.Proofs
set_option maxRecDepth 100000
set_option maxHeartbeats 1000000

section
variable {h : Heap} {b : Option Addr} {l c : Nat} {rs : List GRing}
theorem fwone : FW .f32 1065353216 one32 := fw_c32 (by decide) (by decide)
end
end Go.Sx
/- Pipes: valid ones, as the rule tells them. -/
set_option linter.unusedVariables false
set_option linter.unusedSimpArgs false
namespace Go.Sx
open Go.Proofs
set_option maxRecDepth 100000
set_option maxHeartbeats 1000000

section
variable {h : Heap} {q : Addr} {x : GPipe}
theorem fwneg : FW .f32 3212836864 neg32 := fw_c32 (by decide) (by decide)
theorem pipe_ok (x : GPipe) : x.ok = (inR x.n 1 3 && decide (x.Left.length = x.n) && decide (x.Scatter.length + 1 = x.n) && x.Right.all GRing.okf && x.Left.all GRing.okf && ((List.range x.n).all fun i => x.Right[i]!.Samples.length == x.Left[i]!.Samples.length) &&
    (x.Scatter.all fun k => inside k neg32 one32) && x.End.ok && (x.End.Kind == 1) && fin x.Loss && fin x.Rest && fin x.Slope) := rfl
theorem l04Ok_c (R : RdP rPipe h q x) : CALL prg f_spec_l04Ok #[.pointer (some q)] (fun u h' => u = .bool x.ok ∧ Ext h h') h := by
  have E0 := Ext.refl h
  refine spec_l04Ok.call (R.oL1 fun b1 l1 c1 S1 => ?_)
  have hl1 : x.Right.length = l1 := S1.len
  have hn : x.n = l1 := hl1
  have k1 := S1.2.1
  have k2 := S1.2.2.1
  have k3 := maxLen_lt
  refine brd (fun hc => ⟨?_, E0⟩) fun hc => brd (fun hc2 => ⟨?_, E0⟩) fun hc2 => R.oL fun b4 l4 c4 S4 => ?_
  · rw [pipe_ok, show inR x.n 1 3 = false by unfold inR; simp only [Bool.and_eq_false_iff, decide_eq_false_iff_not]; omega]; rfl
  · rw [pipe_ok, show inR x.n 1 3 = false by unfold inR; simp only [Bool.and_eq_false_iff, decide_eq_false_iff_not]; omega]; rfl
  have hl4 : x.Left.length = l4 := S4.len
  have h1 : inR x.n 1 3 = true := by unfold inR; simp only [Bool.and_eq_true, decide_eq_true_eq]; omega
  refine br (fun hb => ⟨?_, E0⟩) fun hb => ?_
  · have : decide (x.Left.length = x.n) = false := by simp only [decide_eq_false_iff_not]; simp at hb; omega
    rw [pipe_ok, this]; simp
  have e4 : l4 = l1 := by simp at hb; omega
  have h2 : decide (x.Left.length = x.n) = true := by simp only [decide_eq_true_eq]; omega
  refine R.oL fun b7 l7 c7 S7 => ?_
  have hl7 : x.Scatter.length = l7 := S7.len
  rw [wrap64 (n := (l1 : Int) - 1) (by omega) (by omega)]
  refine br (fun hb => ⟨?_, E0⟩) fun hb => ?_
  · have : decide (x.Scatter.length + 1 = x.n) = false := by simp only [decide_eq_false_iff_not]; simp at hb; omega
    rw [pipe_ok, this]; simp
  have e7 : l7 + 1 = l1 := by simp at hb; omega
  have h3 : decide (x.Scatter.length + 1 = x.n) = true := by simp only [decide_eq_true_eq]; omega
  refine R.oL1 fun b1 l1' c1 S1' => goX (l04Rings_c S1') fun ha xa => as_b (br (fun hb => ⟨?_, xa⟩) fun hb => ?_)
  · rw [pipe_ok, nt hb]; simp
  have h4 := nf hb
  refine (R.ext xa).oL fun b4 l4' c4 S4' => goX (l04Rings_c S4') fun hd xb => as_b (br (fun hb => ⟨?_, xa.trans xb⟩) fun hb => ?_)
  · rw [pipe_ok, nt hb]; simp
  have h5 := nf hb
  unfold spec_l04Ok.J4
  have X := xa.trans xb
  refine loop (fun y hh => ∃ n : Nat, y = (q, (l1 : Int), (n : Int)) ∧ n ≤ l1 ∧ hh = hd ∧ ∀ i, i < n → (x.Right[i]!.Samples.length == x.Left[i]!.Samples.length) = true) (fun y => (l1 - y.2.2).toNat) ⟨0, rfl, by omega, rfl, fun i hi => by omega⟩ ?_
  rintro y hh ⟨n, rfl, hn', rfl, hz⟩
  refine brd (fun hc => ?_) fun hc => ?_
  · refine (R.ext X).oL1 fun b l c S => ?_
    have hlS := S.len
    refine S.idx ring_sz (by omega) (by omega) fun p Rp => Rp.oL1 fun b2 l2 c2 S2 => (R.ext X).oL fun b3 l3 c3 S3 => ?_
    have hlS3 := S3.len
    refine S3.idx ring_sz (by omega) (by omega) fun p Rp => Rp.oL1 fun b5 l5 c5 S5 => ?_
    have f2 : x.Right[n]!.Samples.length = l2 := S2.len
    have f5 : x.Left[n]!.Samples.length = l5 := S5.len
    refine br (fun hb => ⟨?_, X⟩) fun hb => ?_
    · have : (x.Right[n]!.Samples.length == x.Left[n]!.Samples.length) = false := by rw [f2, f5]; simp at hb ⊢; omega
      rw [pipe_ok, all_false (f := fun i => x.Right[i]!.Samples.length == x.Left[i]!.Samples.length) (i := n) (by omega) this]; simp
    · refine ⟨⟨n + 1, by rw [wrap64_succ (by omega)], by omega, rfl, fun i hi => ?_⟩, by rw [wrap64_succ (by omega)]; show _ < _; simp; omega⟩
      by_cases e : i = n
      · subst e; rw [f2, f5]; simp at hb ⊢; omega
      · exact hz i (by omega)
  have h6 : ((List.range x.n).all fun i => x.Right[i]!.Samples.length == x.Left[i]!.Samples.length) = true := all_true fun i hi => hz i (by omega)
  refine loop (fun y hh' => ∃ n : Nat, y = (q, (l1 : Int), (n : Int)) ∧ n ≤ l7 ∧ hh' = hh ∧ ∀ i, i < n → inside x.Scatter[i]! neg32 one32 = true) (fun y => (l7 - y.2.2).toNat) ⟨0, rfl, by omega, rfl, fun i hi => by omega⟩ ?_
  rintro y hh' ⟨n, rfl, hn'', rfl, hz2⟩
  rw [spec_l04Ok.B10, wrap64 (n := (l1 : Int) - 1) (by omega) (by omega)]
  have no : inside x.Scatter[n]! neg32 one32 = false → n < l7 → (Value.bool false = .bool x.ok ∧ Ext h hh') := fun e hlt => ⟨by
    rw [pipe_ok, all_range (fun k => inside k neg32 one32), all_false (f := fun i => inside x.Scatter[i]! neg32 one32) (i := n) (by omega) e]; simp, X⟩
  refine brd (fun hc => ?_) fun hc => ?_
  · refine (R.ext X).oL fun b l c S => ?_
    have hlS := S.len
    refine S.idx (by decide) (by omega) (by omega) fun p Rp => Rp.oF1 fun y hy => ?_
    rw [ord_eq hy fwneg]
    refine br (fun hb => (R.ext X).oL fun b2 l2 c2 S2 => ?_) fun hb => no ?_ (by omega)
    · have hlS2 := S2.len
      refine S2.idx (by decide) (by omega) (by omega) fun p2 Rp2 => Rp2.oF1 fun z hz3 => ?_
      rw [ord_eq hz3 fwone]
      have hb : fge .f32 x.Scatter[n]! neg32 = true := hb
      refine br (fun hb2 => no ?_ (by omega)) fun hb2 => ?_
      · have hb2 : fle .f32 x.Scatter[n]! one32 = false := nt hb2
        unfold inside; rw [hb2, Bool.and_false]
      · have hb2 : fle .f32 x.Scatter[n]! one32 = true := nf hb2
        refine ⟨⟨n + 1, by rw [wrap64_succ (by omega)], by omega, rfl, fun i hi => ?_⟩, by rw [wrap64_succ (by omega)]; show _ < _; simp; omega⟩
        by_cases e : i = n
        · subst e; unfold inside; rw [hb, hb2]; rfl
        · exact hz2 i (by omega)
    · have hb : fge .f32 x.Scatter[n]! neg32 = false := hb
      unfold inside; rw [hb, Bool.false_and]
  have h7 : (x.Scatter.all fun k => inside k neg32 one32) = true := by rw [all_range (fun k => inside k neg32 one32), all_true fun i hi => hz2 i (by omega)]
  refine goX (l02Ok_c ((R.ext X).foc foc_Pipe_End)) fun he xe => as_b (br (fun hb => ?_) fun hb => ⟨?_, X.trans xe⟩)
  · have RE := R.ext (X.trans xe)
    refine RE.oI (br (fun hk => ?_) fun hk => ⟨?_, X.trans xe⟩)
    · refine RE.oF fun y1 j1 => RE.oF fun y2 j2 => RE.oF fun y3 j3 => ?_
      refine rArr_slr (r := rF .f32) (n := 3) (xs := [x.Loss, x.Rest, x.Slope]) ⟨rfl, [_], _, rfl, ⟨_, rfl, j1⟩, [_], _, rfl, ⟨_, rfl, j2⟩, [_], _, rfl, ⟨_, rfl, j3⟩, rfl⟩ (by decide) fun g' h4' x4 S => ?_
      refine goX (l04All_c S) fun h5' x5 => as_b ⟨?_, ((X.trans xe).trans x4).trans x5⟩
      have hk : (x.End.Kind == 1) = true := hk
      rw [pipe_ok, h1, h2, h3, h4, h5, h6, h7, hb, hk]; simp [allFin, Bool.and_assoc]
    · have hk : (x.End.Kind == 1) = false := hk
      rw [pipe_ok, hk]; simp
  · rw [pipe_ok, hb]; simp
end
end Go.Sx
/- Pipes: valid ones, as the program tells them. -/
set_option linter.unusedVariables false
set_option linter.unusedSimpArgs false
namespace Go.Sx
open Go.Proofs
set_option maxRecDepth 100000
set_option maxHeartbeats 1000000

section
variable {h : Heap} {q : Addr} {x : GPipe}
theorem pipe_tells : Tells prg (.func (.func f_impl_ValidPipe_c1) #[] #[]) fun k => !inside k neg32 one32 := fun x a h hx => by
  show CALL prg f_impl_ValidPipe_c1 #[.float .f32 x] _ h
  exact impl_ValidPipe_c1.call ((inside_c hx fwneg fwone).go fun h2 x2 => as_b ⟨rfl, x2⟩)
theorem ValidPipe_c {cs : Array Value} (R0 : rPipe.rd h cs.toList x) : CALL prg f_impl_ValidPipe #[.agg cs] (fun u h' => u = .bool x.ok ∧ Ext h h') h := by
  refine impl_ValidPipe.call (alcR R0 fun g h1 x1 R => R.oL2 fun b1 l1 c1 S1 => goX (within_c _ _ _ _) fun h2 x2 => as_b ?_)
  have hl1 : x.Right.length = l1 := S1.len
  have hn : x.n = l1 := hl1
  have k1 := S1.2.1
  have k2 := S1.2.2.1
  have k3 := maxLen_lt
  have X2 := x1.trans x2
  refine br (fun hb => ⟨?_, X2⟩) fun hb => ?_
  · rw [pipe_ok, hn, nt hb]; rfl
  have h1' : inR x.n 1 3 = true := by rw [hn]; exact nf hb
  have hr : 1 ≤ l1 ∧ l1 ≤ 3 := by rw [hn] at h1'; unfold inR at h1'; simp at h1'; omega
  refine (R.ext x2).oL2 fun b4 l4 c4 S4 => ?_
  have hl4 : x.Left.length = l4 := S4.len
  refine br (fun hb => ⟨?_, X2⟩) fun hb => ?_
  · have : decide (x.Left.length = x.n) = false := by simp only [decide_eq_false_iff_not]; simp at hb; omega
    rw [pipe_ok, this]; simp
  have e4 : l4 = l1 := by simp at hb; omega
  have h2' : decide (x.Left.length = x.n) = true := by simp only [decide_eq_true_eq]; omega
  refine (R.ext x2).oL2 fun b7 l7 c7 S7 => ?_
  have hl7 : x.Scatter.length = l7 := S7.len
  rw [wrap64 (n := (l1 : Int) - 1) (by omega) (by omega)]
  refine br (fun hb => ⟨?_, X2⟩) fun hb => ?_
  · have : decide (x.Scatter.length + 1 = x.n) = false := by simp only [decide_eq_false_iff_not]; simp at hb; omega
    rw [pipe_ok, this]; simp
  have h3' : decide (x.Scatter.length + 1 = x.n) = true := by simp at hb; simp only [decide_eq_true_eq]; omega
  refine (R.ext x2).lda2 foc_Pipe_End rfl fun cf Rf => goX (isFilter_c Rf _) fun h5 x5 => as_b (br (fun hb => ⟨?_, X2.trans x5⟩) fun hb => ?_)
  · have : (x.End.ok && x.End.Kind == 1) = false := nt hb
    rw [pipe_ok, Bool.and_assoc _ x.End.ok, this]; simp
  have hE : (x.End.ok && x.End.Kind == 1) = true := nf hb
  have RE := R.ext (x2.trans x5)
  refine RE.oF2 fun y1 j1 => RE.oF2 fun y2 j2 => RE.oF2 fun y3 j3 => ?_
  refine rArr_slr (r := rF .f32) (n := 3) (xs := [x.Loss, x.Rest, x.Slope]) ⟨rfl, [_], _, rfl, ⟨_, rfl, j1⟩, [_], _, rfl, ⟨_, rfl, j2⟩, [_], _, rfl, ⟨_, rfl, j3⟩, rfl⟩ (by decide) fun g' h4' x4 S => ?_
  have X4 := (X2.trans x5).trans x4
  refine goX (areFinite_c S) fun h6 x6 => as_b (br (fun hb => ⟨?_, X4.trans x6⟩) fun hb => ?_)
  · have : (fin x.Loss && fin x.Rest && fin x.Slope) = false := by have := nt hb; simpa [allFin, Bool.and_assoc] using this
    rw [pipe_ok, Bool.and_assoc _ (fin x.Rest), Bool.and_assoc _ (fin x.Loss), ← Bool.and_assoc (fin x.Loss), this]; simp
  have hF : (fin x.Loss && fin x.Rest && fin x.Slope) = true := by have := nf hb; simpa [allFin, Bool.and_assoc] using this
  unfold impl_ValidPipe.J4
  have X6 := X4.trans x6
  have RJ := R.ext (((x2.trans x5).trans x4).trans x6)
  refine RJ.oL2 fun b1' l1' c1' S1' => ?_
  have hl1' := S1'.len
  refine loop (fun y hh => ∃ n : Nat, y = (⟨g, 0, none⟩, b1', l1', c1', (l1' : Int), (n : Int)) ∧ n ≤ l1' ∧ Ext h6 hh ∧ ∀ i, i < n → (x.Right[i]!.okf && (x.Left[i]!.okf && (x.Right[i]!.Samples.length == x.Left[i]!.Samples.length))) = true) (fun y => (l1' - y.2.2.2.2.2).toNat) ⟨0, rfl, by omega, Ext.refl _, fun i hi => by omega⟩ ?_
  rintro y hh ⟨n, rfl, hn', X, hz⟩
  refine brd (fun hc => ?_) fun hc => ?_
  · have no : ∀ {h'}, Ext h6 h' → (x.Right[n]!.okf && (x.Left[n]!.okf && (x.Right[n]!.Samples.length == x.Left[n]!.Samples.length))) = false → (Value.bool false = .bool x.ok ∧ Ext h h') := fun X e => ⟨by
      rw [pipe_ok]
      rcases Bool.and_eq_false_iff.1 e with e | e
      · rw [all_range GRing.okf x.Right, all_false (f := fun i => x.Right[i]!.okf) (i := n) (by omega) e]; simp
      · rcases Bool.and_eq_false_iff.1 e with e | e
        · rw [all_range GRing.okf x.Left, all_false (f := fun i => x.Left[i]!.okf) (i := n) (by omega) e]; simp
        · rw [all_false (f := fun i => x.Right[i]!.Samples.length == x.Left[i]!.Samples.length) (i := n) (by omega) e]; simp, X6.trans X⟩
    refine (S1'.ext X).idx ring_sz (by omega) (by omega) fun p Rp => Rp.lda1 rfl fun ca Ra => (Mem.start hh).alc fun g5 h7 x7 N => N.sta0 .here (rsz Ra rfl) (rRing.rone Ra) rfl .here fun h8 N => N.lda0 .here (rsz Ra rfl) ?_
    have Ra : rRing.rd h8 ca.toList x.Right[n]! := rRing.ext N.ext Ra
    have Pa : RdP rRing h8 ⟨g5, 0, none⟩ x.Right[n]! := N.rdp .here Ra
    have X8 := X.trans N.ext
    refine goX (isRing_c Ra) fun h9 x9 => as_b (br (fun hb => no (X8.trans x9) ?_) fun hb => ?_)
    · rw [nt hb]; rfl
    have o1 := nf hb
    refine (RJ.ext (X8.trans x9)).oL fun b3 l3 c3 S3 => ?_
    have hl3 := S3.len
    refine S3.idx ring_sz (by omega) (by omega) fun p3 Rp3 => Rp3.lda1 rfl fun cb Rb => goX (isRing_c Rb) fun ha xa => as_b (br (fun hb => no ((X8.trans x9).trans xa) ?_) fun hb => ?_)
    · have hb : x.Left[n]!.okf = false := nt hb
      rw [o1, hb]; rfl
    have o2 : x.Left[n]!.okf = true := nf hb
    refine (Pa.ext (x9.trans xa)).oL2 fun b5 l5 c5 S5 => (RJ.ext ((X8.trans x9).trans xa)).oL fun b6 l6 c6 S6 => ?_
    have hl6 := S6.len
    refine S6.idx ring_sz (by omega) (by omega) fun p6 Rp6 => Rp6.oL1 fun b8 l8 c8 S8 => ?_
    have f5 : x.Right[n]!.Samples.length = l5 := S5.len
    have f8 : x.Left[n]!.Samples.length = l8 := S8.len
    refine br (fun hb => no ((X8.trans x9).trans xa) ?_) fun hb => ?_
    · have hb' : (l5 : Int) ≠ (l8 : Int) := by simpa using hb
      have : (l5 == l8) = false := by rw [beq_eq_false_iff_ne]; omega
      rw [o1, o2, f5, f8, this]; rfl
    · have hb' : (l5 : Int) = (l8 : Int) := by simpa using hb
      refine ⟨⟨n + 1, by rw [wrap64_succ (by omega)], by omega, (X8.trans x9).trans xa, fun i hi => ?_⟩, by rw [wrap64_succ (by omega)]; show _ < _; simp; omega⟩
      by_cases e : i = n
      · subst e
        have : (l5 == l8) = true := by rw [beq_iff_eq]; omega
        rw [o1, o2, f5, f8, this]; rfl
      · exact hz i (by omega)
  have hz' : ∀ i, i < x.n → x.Right[i]!.okf = true ∧ x.Left[i]!.okf = true ∧ (x.Right[i]!.Samples.length == x.Left[i]!.Samples.length) = true := fun i hi => by
    have := hz i (by omega)
    rw [Bool.and_eq_true, Bool.and_eq_true] at this
    exact this
  have h4 : x.Right.all GRing.okf = true := by rw [all_range GRing.okf x.Right]; exact all_true fun i hi => (hz' i hi).1
  have h5' : x.Left.all GRing.okf = true := by rw [all_range GRing.okf x.Left]; exact all_true fun i hi => (hz' i (by omega)).2.1
  have h6' : ((List.range x.n).all fun i => x.Right[i]!.Samples.length == x.Left[i]!.Samples.length) = true := all_true fun i hi => (hz' i hi).2.2
  refine (RJ.ext X).oL fun b9 l9 c9 S9 => goX (ContainsFunc_f32_c S9 pipe_tells) fun hf xf => as_b ⟨?_, (X6.trans X).trans xf⟩
  rw [any_not, pipe_ok, h1', h2', h3', h4, h5', h6', Bool.and_assoc _ x.End.ok, hE, Bool.and_assoc _ (fin x.Rest), Bool.and_assoc _ (fin x.Loss), ← Bool.and_assoc (fin x.Loss), hF]; simp
end
end Go.Sx
