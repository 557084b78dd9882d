/- Rings copied in lists; reeds. -/
import Derived.Test.YtkgmfiloghhibaaGreatDoorLgn
import Derived.Test.YtkgmfiloghhibaaGreatDoorK2
import Derived.Test.YtkgmfiloghhibaaGreatDoorK3
import Derived.Test.YtkgmfiloghhibaaGreatDoorLk21
import Derived.Test.YtkgmfiloghhibaaGreatDoorLk3
import Derived.Test.YtkgmfiloghhibaaGreatDoorLf8
import Derived.Test.YtkgmfiloghhibaaGreatDoorTab
import Derived.Test.YtkgmfiloghhibaaGreatDoorK9
import Derived.Test.YtkgmfiloghhibaaGreatDoorLp5
set_option linter.unusedVariables false
set_option linter.unusedSimpArgs false
namespace Go.Sx
open Go.Proofs
set_option maxRecDepth 100000
set_option maxHeartbeats 1000000

section
variable {h : Heap} {b : Option Addr} {l c : Nat} {rs : List GRing}
theorem fwone : FW .f32 1065353216 one32 := fw_c32 (by decide) (by decide)
theorem l04Reed_c {r s d a1 a2 a3 : Nat} (hr : FW .f32 r a1) (hs : FW .f32 s a2) (hd : FW .f32 d a3) : Fl prg f_spec_l04Reed #[.float .f32 r, .float .f32 s, .float .f32 d] .f32 (clamp (fadd .f32 a1 (fmul .f32 a2 a3)) one32) := fun h => by
  refine spec_l04Reed.call (fM hs hd fun w1 h1 => fA hr h1 fun w2 h2 => (l01Clamp_c h2 fwone).go fun h3 y x3 hy => as_f ?_)
  exact ⟨⟨y, rfl, hy⟩, x3⟩
/-- A ring laid in a block of its own as a slice's element. -/
theorem splice_ring {cs : Array Value} (hs : cs.size = 2) : (⟨splice 0 2 cs [.slice none 0 0, .int .i64 (0 : Int)]⟩ : Array Value) = cs := by
  rw [splice_all (n := 2) rfl]
theorem l04Copies_c (S : SlR rRing h b l c rs) (hr : ∀ r ∈ rs, r.Samples.length ≤ 1048576) (hl : l ≤ 1048576) :
    CALL prg f_spec_l04Copies #[.slice b l c] (fun u h' => ∃ b' c' B, u = .slice b' l c' ∧ SlO T_impl_Ring rRing B b' l c' rs ∧ Mem h h' B) h := by
  have hls := S.len
  have hm : (1048577 : Nat) ≤ maxLen := by decide
  refine spec_l04Copies.call ((Mem.start h).alc fun g h1 x1 M => ?_)
  refine loop (fun y hh => ∃ (n : Nat) (b' : Option Addr) (c' : Nat) (B : List Blk), y = (b, l, c, b', n, c', (n : Int)) ∧ n ≤ l ∧ SlO T_impl_Ring rRing B b' n c' (rs.take n) ∧ Mem h hh B) (fun y => (l - y.2.2.2.2.2.2).toNat)
    ⟨0, _, _, _, rfl, by omega, SlO.empty g, M⟩ ?_
  rintro y hh ⟨n, b', c', B, rfl, hn, O, M⟩
  refine brd (fun hc => ?_) fun hc => ?_
  · have hi : n < rs.length := by omega
    refine (S.ext M.ext).idx ring_sz (by omega) (by omega) fun p Rp => NewR.go M (l02Copy_c Rp (hr _ (by rw [Int.toNat_natCast, getElem!_pos _ n hi]; exact List.getElem_mem _))) fun h2 cs Bn M O2 s2 => as_a (siz s2 ?_)
    rw [splice_ring s2]
    have M := M.cnt (W := B ++ (Bn ++ [])) (fun p => by simp only [cnt_app, cnt_cons, cnt_nil] at *; omega)
    refine push_own E_sl_impl_Ring O M O2 (by omega) (by omega) fun b2 c2 h3 B2 O3 M3 => as_l ⟨⟨n + 1, b2, c2, B2, by rw [wrap64_succ (by omega)], by omega, ?_, by simpa using M3⟩, by rw [wrap64_succ (by omega)]; show _ < _; simp; omega⟩
    rw [take_snoc hi]; exact O3
  · obtain rfl : n = l := by omega
    rw [← hls, List.take_length] at O
    rw [← hls]
    exact ⟨b', c', B, rfl, O, M⟩
theorem cloneRings_c (S : SlR rRing h b l c rs) (hr : ∀ r ∈ rs, r.Samples.length ≤ 1048576) (hl : l ≤ 1048576) :
    CALL prg f_impl_cloneRings #[.slice b l c] (fun u h' => ∃ b' c' B, u = .slice b' l c' ∧ SlO T_impl_Ring rRing B b' l c' rs ∧ Mem h h' B) h := by
  have hls := S.len
  have hm : (1048577 : Nat) ≤ maxLen := by decide
  refine impl_cloneRings.call ?_
  refine loop (fun y hh => ∃ (n : Nat) (b' : Option Addr) (c' : Nat) (B : List Blk), y = (b', n, c', b, l, c, (l : Int), (n : Int)) ∧ n ≤ l ∧ SlO T_impl_Ring rRing B b' n c' (rs.take n) ∧ Mem h hh B) (fun y => (l - y.2.2.2.2.2.2.2).toNat)
    ⟨0, _, _, _, rfl, by omega, SlO.nil, Mem.start h⟩ ?_
  rintro y hh ⟨n, b', c', B, rfl, hn, O, M⟩
  refine brd (fun hc => ?_) fun hc => ?_
  · have hi : n < rs.length := by omega
    refine (S.ext M.ext).idx ring_sz (by omega) (by omega) fun p Rp => Rp.lda1 rfl fun ca Ra => (Mem.start hh).alc fun g5 h5 x5 N => N.sta0 .here (rsz Ra rfl) (rRing.rone Ra) rfl .here fun h6 N => N.lda0 .here (rsz Ra rfl) ?_
    have M := M.join N
    have Ra : rRing.rd h6 ca.toList rs[n]! := rRing.ext N.ext Ra
    refine NewR.go M (Ring_clone_c Ra (hr _ (by rw [getElem!_pos _ n hi]; exact List.getElem_mem _))) fun h2 cs Bn M O2 s2 => as_a (siz s2 ?_)
    rw [splice_ring s2]
    have M := M.cnt (W := B ++ (Bn ++ [])) (fun p => by simp only [cnt_app, cnt_cons, cnt_nil] at *; omega)
    refine push_own E_sl_impl_Ring O M O2 (by omega) (by omega) fun b2 c2 h3 B2 O3 M3 => as_l ⟨⟨n + 1, b2, c2, B2, by rw [wrap64_succ (by omega)], by omega, ?_, by simpa using M3⟩, by rw [wrap64_succ (by omega)]; show _ < _; simp; omega⟩
    rw [take_snoc hi]; exact O3
  · obtain rfl : n = l := by omega
    rw [← hls, List.take_length] at O
    rw [← hls]
    exact ⟨b', c', B, rfl, O, M⟩
theorem l04Oldest_c (S : SlR rRing h b l c rs) (hr : ∀ r ∈ rs, r.ok = true) (hl : l ≤ 1048576) :
    CALL prg f_spec_l04Oldest #[.slice b l c] (fun u h' => ∃ b' c' B, u = .slice b' l c' ∧ SlO T_float32 (rF .f32) B b' l c' (rs.map GRing.old) ∧ Mem h h' B) h := by
  have hls := S.len
  have hm : (1048577 : Nat) ≤ maxLen := by decide
  refine spec_l04Oldest.call ((Mem.start h).alc fun g h1 x1 M => ?_)
  refine loop (fun y hh => ∃ (n : Nat) (b' : Option Addr) (c' : Nat) (B : List Blk), y = (b, l, c, b', n, c', (n : Int)) ∧ n ≤ l ∧ SlO T_float32 (rF .f32) B b' n c' ((rs.take n).map GRing.old) ∧ Mem h hh B) (fun y => (l - y.2.2.2.2.2.2).toNat)
    ⟨0, _, _, _, rfl, by omega, SlO.empty g, M⟩ ?_
  rintro y hh ⟨n, b', c', B, rfl, hn, O, M⟩
  refine brd (fun hc => ?_) fun hc => ?_
  · have hi : n < rs.length := by omega
    have hok := hr rs[n]! (by rw [getElem!_pos _ n hi]; exact List.getElem_mem _)
    obtain ⟨k1, k2, k3, k4, k5⟩ := at_lt hok
    refine (S.ext M.ext).idx ring_sz (by omega) (by omega) fun p Rp => Rp.oL1 fun b3 l3 c3 S3 => (S.ext M.ext).idx ring_sz (by omega) (by omega) fun p2 Rp2 => Rp2.oI ?_
    have hl3 : rs[n]!.Samples.length = l3 := S3.len
    refine S3.idx (by decide) k1 (by show rs[n]!.At < (l3 : Int); omega) fun p4 Rp4 => Rp4.oF1 fun y hy => ?_
    have hy : FW .f32 y rs[n]!.old := hy
    refine push_own (Bn := []) (L := []) E_sl_float32 O (by simpa using M) ⟨rfl, y, rfl, hy⟩ (by omega) (by omega) fun b2 c2 h3 B2 O3 M3 => as_l ⟨⟨n + 1, b2, c2, B2, by rw [wrap64_succ (by omega)], by omega, ?_, by simpa using M3⟩, by rw [wrap64_succ (by omega)]; show _ < _; simp; omega⟩
    rw [take_snoc hi, List.map_append]; exact O3
  · obtain rfl : n = l := by omega
    rw [← hls, List.take_length] at O
    rw [← hls]
    exact ⟨b', c', B, rfl, O, M⟩
end
end Go.Sx
/- Pipes: valid ones, as the rule tells them. -/
set_option linter.unusedVariables false
set_option linter.unusedSimpArgs false
namespace Go.Sx
open Go.Proofs
set_option maxRecDepth 100000
set_option maxHeartbeats 1000000

section
variable {h : Heap} {q : Addr} {x : GPipe}
theorem fwneg : FW .f32 3212836864 neg32 := fw_c32 (by decide) (by decide)
theorem pipe_ok (x : GPipe) : x.ok = (inR x.n 1 3 && decide (x.Left.length = x.n) && decide (x.Scatter.length + 1 = x.n) && x.Right.all GRing.okf && x.Left.all GRing.okf && ((List.range x.n).all fun i => x.Right[i]!.Samples.length == x.Left[i]!.Samples.length) &&
    (x.Scatter.all fun k => inside k neg32 one32) && x.End.ok && (x.End.Kind == 1) && fin x.Loss && fin x.Rest && fin x.Slope) := rfl
theorem l04Ok_c (R : RdP rPipe h q x) : CALL prg f_spec_l04Ok #[.pointer (some q)] (fun u h' => u = .bool x.ok ∧ Ext h h') h := by
  have E0 := Ext.refl h
  refine spec_l04Ok.call (R.oL1 fun b1 l1 c1 S1 => ?_)
  have hl1 : x.Right.length = l1 := S1.len
  have hn : x.n = l1 := hl1
  have k1 := S1.2.1
  have k2 := S1.2.2.1
  have k3 := maxLen_lt
  refine brd (fun hc => ⟨?_, E0⟩) fun hc => brd (fun hc2 => ⟨?_, E0⟩) fun hc2 => R.oL fun b4 l4 c4 S4 => ?_
  · rw [pipe_ok, show inR x.n 1 3 = false by unfold inR; simp only [Bool.and_eq_false_iff, decide_eq_false_iff_not]; omega]; rfl
  · rw [pipe_ok, show inR x.n 1 3 = false by unfold inR; simp only [Bool.and_eq_false_iff, decide_eq_false_iff_not]; omega]; rfl
  have hl4 : x.Left.length = l4 := S4.len
  have h1 : inR x.n 1 3 = true := by unfold inR; simp only [Bool.and_eq_true, decide_eq_true_eq]; omega
  refine br (fun hb => ⟨?_, E0⟩) fun hb => ?_
  · have : decide (x.Left.length = x.n) = false := by simp only [decide_eq_false_iff_not]; simp at hb; omega
    rw [pipe_ok, this]; simp
  have e4 : l4 = l1 := by simp at hb; omega
  have h2 : decide (x.Left.length = x.n) = true := by simp only [decide_eq_true_eq]; omega
  refine R.oL fun b7 l7 c7 S7 => ?_
  have hl7 : x.Scatter.length = l7 := S7.len
  rw [wrap64 (n := (l1 : Int) - 1) (by omega) (by omega)]
  refine br (fun hb => ⟨?_, E0⟩) fun hb => ?_
  · have : decide (x.Scatter.length + 1 = x.n) = false := by simp only [decide_eq_false_iff_not]; simp at hb; omega
    rw [pipe_ok, this]; simp
  have e7 : l7 + 1 = l1 := by simp at hb; omega
  have h3 : decide (x.Scatter.length + 1 = x.n) = true := by simp only [decide_eq_true_eq]; omega
  refine R.oL1 fun b1 l1' c1 S1' => goX (l04Rings_c S1') fun ha xa => as_b (br (fun hb => ⟨?_, xa⟩) fun hb => ?_)
  · rw [pipe_ok, nt hb]; simp
  have h4 := nf hb
  refine (R.ext xa).oL fun b4 l4' c4 S4' => goX (l04Rings_c S4') fun hd xb => as_b (br (fun hb => ⟨?_, xa.trans xb⟩) fun hb => ?_)
  · rw [pipe_ok, nt hb]; simp
  have h5 := nf hb
  unfold spec_l04Ok.J4
  have X := xa.trans xb
  refine loop (fun y hh => ∃ n : Nat, y = (q, (l1 : Int), (n : Int)) ∧ n ≤ l1 ∧ hh = hd ∧ ∀ i, i < n → (x.Right[i]!.Samples.length == x.Left[i]!.Samples.length) = true) (fun y => (l1 - y.2.2).toNat) ⟨0, rfl, by omega, rfl, fun i hi => by omega⟩ ?_
  rintro y hh ⟨n, rfl, hn', rfl, hz⟩
  refine brd (fun hc => ?_) fun hc => ?_
  · refine (R.ext X).oL1 fun b l c S => ?_
    have hlS := S.len
    refine S.idx ring_sz (by omega) (by omega) fun p Rp => Rp.oL1 fun b2 l2 c2 S2 => (R.ext X).oL fun b3 l3 c3 S3 => ?_
    have hlS3 := S3.len
    refine S3.idx ring_sz (by omega) (by omega) fun p Rp => Rp.oL1 fun b5 l5 c5 S5 => ?_
    have f2 : x.Right[n]!.Samples.length = l2 := S2.len
    have f5 : x.Left[n]!.Samples.length = l5 := S5.len
    refine br (fun hb => ⟨?_, X⟩) fun hb => ?_
    · have : (x.Right[n]!.Samples.length == x.Left[n]!.Samples.length) = false := by rw [f2, f5]; simp at hb ⊢; omega
      rw [pipe_ok, all_false (f := fun i => x.Right[i]!.Samples.length == x.Left[i]!.Samples.length) (i := n) (by omega) this]; simp
    · refine ⟨⟨n + 1, by rw [wrap64_succ (by omega)], by omega, rfl, fun i hi => ?_⟩, by rw [wrap64_succ (by omega)]; show _ < _; simp; omega⟩
      by_cases e : i = n
      · subst e; rw [f2, f5]; simp at hb ⊢; omega
      · exact hz i (by omega)
  have h6 : ((List.range x.n).all fun i => x.Right[i]!.Samples.length == x.Left[i]!.Samples.length) = true := all_true fun i hi => hz i (by omega)
  refine loop (fun y hh' => ∃ n : Nat, y = (q, (l1 : Int), (n : Int)) ∧ n ≤ l7 ∧ hh' = hh ∧ ∀ i, i < n → inside x.Scatter[i]! neg32 one32 = true) (fun y => (l7 - y.2.2).toNat) ⟨0, rfl, by omega, rfl, fun i hi => by omega⟩ ?_
  rintro y hh' ⟨n, rfl, hn'', rfl, hz2⟩
  rw [spec_l04Ok.B10, wrap64 (n := (l1 : Int) - 1) (by omega) (by omega)]
  have no : inside x.Scatter[n]! neg32 one32 = false → n < l7 → (Value.bool false = .bool x.ok ∧ Ext h hh') := fun e hlt => ⟨by
    rw [pipe_ok, all_range (fun k => inside k neg32 one32), all_false (f := fun i => inside x.Scatter[i]! neg32 one32) (i := n) (by omega) e]; simp, X⟩
  refine brd (fun hc => ?_) fun hc => ?_
  · refine (R.ext X).oL fun b l c S => ?_
    have hlS := S.len
    refine S.idx (by decide) (by omega) (by omega) fun p Rp => Rp.oF1 fun y hy => ?_
    rw [ord_eq hy fwneg]
    refine br (fun hb => (R.ext X).oL fun b2 l2 c2 S2 => ?_) fun hb => no ?_ (by omega)
    · have hlS2 := S2.len
      refine S2.idx (by decide) (by omega) (by omega) fun p2 Rp2 => Rp2.oF1 fun z hz3 => ?_
      rw [ord_eq hz3 fwone]
      have hb : fge .f32 x.Scatter[n]! neg32 = true := hb
      refine br (fun hb2 => no ?_ (by omega)) fun hb2 => ?_
      · have hb2 : fle .f32 x.Scatter[n]! one32 = false := nt hb2
        unfold inside; rw [hb2, Bool.and_false]
      · have hb2 : fle .f32 x.Scatter[n]! one32 = true := nf hb2
        refine ⟨⟨n + 1, by rw [wrap64_succ (by omega)], by omega, rfl, fun i hi => ?_⟩, by rw [wrap64_succ (by omega)]; show _ < _; simp; omega⟩
        by_cases e : i = n
        · subst e; unfold inside; rw [hb, hb2]; rfl
        · exact hz2 i (by omega)
    · have hb : fge .f32 x.Scatter[n]! neg32 = false := hb
      unfold inside; rw [hb, Bool.false_and]
  have h7 : (x.Scatter.all fun k => inside k neg32 one32) = true := by rw [all_range (fun k => inside k neg32 one32), all_true fun i hi => hz2 i (by omega)]
  refine goX (l02Ok_c ((R.ext X).foc foc_Pipe_End)) fun he xe => as_b (br (fun hb => ?_) fun hb => ⟨?_, X.trans xe⟩)
  · have RE := R.ext (X.trans xe)
    refine RE.oI (br (fun hk => ?_) fun hk => ⟨?_, X.trans xe⟩)
    · refine RE.oF fun y1 j1 => RE.oF fun y2 j2 => RE.oF fun y3 j3 => ?_
      refine rArr_slr (r := rF .f32) (n := 3) (xs := [x.Loss, x.Rest, x.Slope]) ⟨rfl, [_], _, rfl, ⟨_, rfl, j1⟩, [_], _, rfl, ⟨_, rfl, j2⟩, [_], _, rfl, ⟨_, rfl, j3⟩, rfl⟩ (by decide) fun g' h4' x4 S => ?_
      refine goX (l04All_c S) fun h5' x5 => as_b ⟨?_, ((X.trans xe).trans x4).trans x5⟩
      have hk : (x.End.Kind == 1) = true := hk
      rw [pipe_ok, h1, h2, h3, h4, h5, h6, h7, hb, hk]; simp [allFin, Bool.and_assoc]
    · have hk : (x.End.Kind == 1) = false := hk
      rw [pipe_ok, hk]; simp
  · rw [pipe_ok, hb]; simp
end
end Go.Sx
/- Pipes: valid ones, as the program tells them. -/
set_option linter.unusedVariables false
set_option linter.unusedSimpArgs false
namespace Go.Sx
open Go.Proofs
set_option maxRecDepth 100000
set_option maxHeartbeats 1000000

section
variable {h : Heap} {q : Addr} {x : GPipe}
theorem pipe_tells : Tells prg (.func (.func f_impl_ValidPipe_c1) #[] #[]) fun k => !inside k neg32 one32 := fun x a h hx => by
  show CALL prg f_impl_ValidPipe_c1 #[.float .f32 x] _ h
  exact impl_ValidPipe_c1.call ((inside_c hx fwneg fwone).go fun h2 x2 => as_b ⟨rfl, x2⟩)
theorem ValidPipe_c {cs : Array Value} (R0 : rPipe.rd h cs.toList x) : CALL prg f_impl_ValidPipe #[.agg cs] (fun u h' => u = .bool x.ok ∧ Ext h h') h := by
  refine impl_ValidPipe.call (alcR R0 fun g h1 x1 R => R.oL2 fun b1 l1 c1 S1 => goX (within_c _ _ _ _) fun h2 x2 => as_b ?_)
  have hl1 : x.Right.length = l1 := S1.len
  have hn : x.n = l1 := hl1
  have k1 := S1.2.1
  have k2 := S1.2.2.1
  have k3 := maxLen_lt
  have X2 := x1.trans x2
  refine br (fun hb => ⟨?_, X2⟩) fun hb => ?_
  · rw [pipe_ok, hn, nt hb]; rfl
  have h1' : inR x.n 1 3 = true := by rw [hn]; exact nf hb
  have hr : 1 ≤ l1 ∧ l1 ≤ 3 := by rw [hn] at h1'; unfold inR at h1'; simp at h1'; omega
  refine (R.ext x2).oL2 fun b4 l4 c4 S4 => ?_
  have hl4 : x.Left.length = l4 := S4.len
  refine br (fun hb => ⟨?_, X2⟩) fun hb => ?_
  · have : decide (x.Left.length = x.n) = false := by simp only [decide_eq_false_iff_not]; simp at hb; omega
    rw [pipe_ok, this]; simp
  have e4 : l4 = l1 := by simp at hb; omega
  have h2' : decide (x.Left.length = x.n) = true := by simp only [decide_eq_true_eq]; omega
  refine (R.ext x2).oL2 fun b7 l7 c7 S7 => ?_
  have hl7 : x.Scatter.length = l7 := S7.len
  rw [wrap64 (n := (l1 : Int) - 1) (by omega) (by omega)]
  refine br (fun hb => ⟨?_, X2⟩) fun hb => ?_
  · have : decide (x.Scatter.length + 1 = x.n) = false := by simp only [decide_eq_false_iff_not]; simp at hb; omega
    rw [pipe_ok, this]; simp
  have h3' : decide (x.Scatter.length + 1 = x.n) = true := by simp at hb; simp only [decide_eq_true_eq]; omega
  refine (R.ext x2).lda2 foc_Pipe_End rfl fun cf Rf => goX (isFilter_c Rf _) fun h5 x5 => as_b (br (fun hb => ⟨?_, X2.trans x5⟩) fun hb => ?_)
  · have : (x.End.ok && x.End.Kind == 1) = false := nt hb
    rw [pipe_ok, Bool.and_assoc _ x.End.ok, this]; simp
  have hE : (x.End.ok && x.End.Kind == 1) = true := nf hb
  have RE := R.ext (x2.trans x5)
  refine RE.oF2 fun y1 j1 => RE.oF2 fun y2 j2 => RE.oF2 fun y3 j3 => ?_
  refine rArr_slr (r := rF .f32) (n := 3) (xs := [x.Loss, x.Rest, x.Slope]) ⟨rfl, [_], _, rfl, ⟨_, rfl, j1⟩, [_], _, rfl, ⟨_, rfl, j2⟩, [_], _, rfl, ⟨_, rfl, j3⟩, rfl⟩ (by decide) fun g' h4' x4 S => ?_
  have X4 := (X2.trans x5).trans x4
  refine goX (areFinite_c S) fun h6 x6 => as_b (br (fun hb => ⟨?_, X4.trans x6⟩) fun hb => ?_)
  · have : (fin x.Loss && fin x.Rest && fin x.Slope) = false := by have := nt hb; simpa [allFin, Bool.and_assoc] using this
    rw [pipe_ok, Bool.and_assoc _ (fin x.Rest), Bool.and_assoc _ (fin x.Loss), ← Bool.and_assoc (fin x.Loss), this]; simp
  have hF : (fin x.Loss && fin x.Rest && fin x.Slope) = true := by have := nf hb; simpa [allFin, Bool.and_assoc] using this
  unfold impl_ValidPipe.J4
  have X6 := X4.trans x6
  have RJ := R.ext (((x2.trans x5).trans x4).trans x6)
  refine RJ.oL2 fun b1' l1' c1' S1' => ?_
  have hl1' := S1'.len
  refine loop (fun y hh => ∃ n : Nat, y = (⟨g, 0, none⟩, b1', l1', c1', (l1' : Int), (n : Int)) ∧ n ≤ l1' ∧ Ext h6 hh ∧ ∀ i, i < n → (x.Right[i]!.okf && (x.Left[i]!.okf && (x.Right[i]!.Samples.length == x.Left[i]!.Samples.length))) = true) (fun y => (l1' - y.2.2.2.2.2).toNat) ⟨0, rfl, by omega, Ext.refl _, fun i hi => by omega⟩ ?_
  rintro y hh ⟨n, rfl, hn', X, hz⟩
  refine brd (fun hc => ?_) fun hc => ?_
  · have no : ∀ {h'}, Ext h6 h' → (x.Right[n]!.okf && (x.Left[n]!.okf && (x.Right[n]!.Samples.length == x.Left[n]!.Samples.length))) = false → (Value.bool false = .bool x.ok ∧ Ext h h') := fun X e => ⟨by
      rw [pipe_ok]
      rcases Bool.and_eq_false_iff.1 e with e | e
      · rw [all_range GRing.okf x.Right, all_false (f := fun i => x.Right[i]!.okf) (i := n) (by omega) e]; simp
      · rcases Bool.and_eq_false_iff.1 e with e | e
        · rw [all_range GRing.okf x.Left, all_false (f := fun i => x.Left[i]!.okf) (i := n) (by omega) e]; simp
        · rw [all_false (f := fun i => x.Right[i]!.Samples.length == x.Left[i]!.Samples.length) (i := n) (by omega) e]; simp, X6.trans X⟩
    refine (S1'.ext X).idx ring_sz (by omega) (by omega) fun p Rp => Rp.lda1 rfl fun ca Ra => (Mem.start hh).alc fun g5 h7 x7 N => N.sta0 .here (rsz Ra rfl) (rRing.rone Ra) rfl .here fun h8 N => N.lda0 .here (rsz Ra rfl) ?_
    have Ra : rRing.rd h8 ca.toList x.Right[n]! := rRing.ext N.ext Ra
    have Pa : RdP rRing h8 ⟨g5, 0, none⟩ x.Right[n]! := N.rdp .here Ra
    have X8 := X.trans N.ext
    refine goX (isRing_c Ra) fun h9 x9 => as_b (br (fun hb => no (X8.trans x9) ?_) fun hb => ?_)
    · rw [nt hb]; rfl
    have o1 := nf hb
    refine (RJ.ext (X8.trans x9)).oL fun b3 l3 c3 S3 => ?_
    have hl3 := S3.len
    refine S3.idx ring_sz (by omega) (by omega) fun p3 Rp3 => Rp3.lda1 rfl fun cb Rb => goX (isRing_c Rb) fun ha xa => as_b (br (fun hb => no ((X8.trans x9).trans xa) ?_) fun hb => ?_)
    · have hb : x.Left[n]!.okf = false := nt hb
      rw [o1, hb]; rfl
    have o2 : x.Left[n]!.okf = true := nf hb
    refine (Pa.ext (x9.trans xa)).oL2 fun b5 l5 c5 S5 => (RJ.ext ((X8.trans x9).trans xa)).oL fun b6 l6 c6 S6 => ?_
    have hl6 := S6.len
    refine S6.idx ring_sz (by omega) (by omega) fun p6 Rp6 => Rp6.oL1 fun b8 l8 c8 S8 => ?_
    have f5 : x.Right[n]!.Samples.length = l5 := S5.len
    have f8 : x.Left[n]!.Samples.length = l8 := S8.len
    refine br (fun hb => no ((X8.trans x9).trans xa) ?_) fun hb => ?_
    · have hb' : (l5 : Int) ≠ (l8 : Int) := by simpa using hb
      have : (l5 == l8) = false := by rw [beq_eq_false_iff_ne]; omega
      rw [o1, o2, f5, f8, this]; rfl
    · have hb' : (l5 : Int) = (l8 : Int) := by simpa using hb
      refine ⟨⟨n + 1, by rw [wrap64_succ (by omega)], by omega, (X8.trans x9).trans xa, fun i hi => ?_⟩, by rw [wrap64_succ (by omega)]; show _ < _; simp; omega⟩
      by_cases e : i = n
      · subst e
        have : (l5 == l8) = true := by rw [beq_iff_eq]; omega
        rw [o1, o2, f5, f8, this]; rfl
      · exact hz i (by omega)
  have hz' : ∀ i, i < x.n → x.Right[i]!.okf = true ∧ x.Left[i]!.okf = true ∧ (x.Right[i]!.Samples.length == x.Left[i]!.Samples.length) = true := fun i hi => by
    have := hz i (by omega)
    rw [Bool.and_eq_true, Bool.and_eq_true] at this
    exact this
  have h4 : x.Right.all GRing.okf = true := by rw [all_range GRing.okf x.Right]; exact all_true fun i hi => (hz' i hi).1
  have h5' : x.Left.all GRing.okf = true := by rw [all_range GRing.okf x.Left]; exact all_true fun i hi => (hz' i (by omega)).2.1
  have h6' : ((List.range x.n).all fun i => x.Right[i]!.Samples.length == x.Left[i]!.Samples.length) = true := all_true fun i hi => (hz' i hi).2.2
  refine (RJ.ext X).oL fun b9 l9 c9 S9 => goX (ContainsFunc_f32_c S9 pipe_tells) fun hf xf => as_b ⟨?_, (X6.trans X).trans xf⟩
  rw [any_not, pipe_ok, h1', h2', h3', h4, h5', h6', Bool.and_assoc _ x.End.ok, hE, Bool.and_assoc _ (fin x.Rest), Bool.and_assoc _ (fin x.Loss), ← Bool.and_assoc (fin x.Loss), hF]; simp
end
end Go.Sx
/- Bodies of voices: none there, or good ones. -/
set_option linter.unusedVariables false
set_option linter.unusedSimpArgs false
namespace Go.Sx
open Go.Proofs
set_option maxRecDepth 100000
set_option maxHeartbeats 1000000

section
variable {h : Heap} {q : Addr}
def GString.ok (x : GString) : Bool := x.Loop.ok && (x.Tune.ok && x.Tune.Kind == 3) && (x.Damp.ok && x.Damp.Kind == 2) && fin x.Loss
def GBow.ok (x : GBow) : Bool := x.Neck.okf && x.Bridge.okf && (x.Damp.ok && x.Damp.Kind == 1) && (fin x.Slope && fin x.Loss)
end
end Go.Sx
/- Voices: the rule's and the program's. -/
set_option linter.unusedVariables false
set_option linter.unusedSimpArgs false
namespace Go.Sx
open Go.Proofs
set_option maxRecDepth 100000
set_option maxHeartbeats 2000000

noncomputable def freeOk (v : GVoice) : Bool := same v.String z_String && same v.Pipe z_Pipe && same v.Bow z_Bow && (v.Instrument == 0) && (v.Born == 0) && !v.Gone && (v.Drive == 0)
noncomputable def bodyOk (s : GScore) (v : GVoice) : Bool :=
  if s.Instruments[v.Instrument.toNat]!.Kind = 1 then v.String.ok && same v.Pipe z_Pipe && same v.Bow z_Bow else if s.Instruments[v.Instrument.toNat]!.Kind = 2 then same v.String z_String && v.Pipe.ok && same v.Bow z_Bow else same v.String z_String && same v.Pipe z_Pipe && v.Bow.ok
noncomputable def voiceOk (s : GScore) (v : GVoice) : Bool := if v.Note = -1 then freeOk v else match startEv s.Events v.Note with | none => false | some e => (e.Instrument == v.Instrument) && (e.At == v.Born) && fin v.Drive && bodyOk s v
theorem first_cases {α : Type} [Inhabited α] (p : α → Bool) (l : List α) : (firstAt p l = -1 ∧ ∀ i, i < l.length → p l[i]! = false) ∨ ∃ n : Nat, n < l.length ∧ firstAt p l = n ∧ (∀ i, i < n → p l[i]! = false) ∧ p l[n]! = true := by
  unfold firstAt
  by_cases h : l.any p = true
  · rw [if_pos h]
    obtain ⟨x, hx, hp⟩ := List.any_eq_true.1 h
    have hlt : l.findIdx p < l.length := List.findIdx_lt_length_of_exists ⟨x, hx, hp⟩
    refine .inr ⟨l.findIdx p, hlt, rfl, fun i hi => ?_, ?_⟩
    · rw [getElem!_pos l i (by omega)]
      have := List.not_of_lt_findIdx hi
      simpa using this
    · rw [getElem!_pos l _ hlt]
      exact List.findIdx_getElem (w := hlt)
  · rw [if_neg h]
    refine .inl ⟨rfl, fun i hi => ?_⟩
    rw [getElem!_pos l i hi]
    rw [Bool.not_eq_true, List.any_eq_false] at h
    have := h _ (List.getElem_mem hi)
    simpa using this
theorem score_ev {s : GScore} (h : s.ok = true) : EvGood s.Events s.Instruments.length := by
  unfold GScore.ok at h
  rw [Bool.and_eq_true] at h
  exact evOk_iff.1 h.2
section
variable {h : Heap}
theorem flat_Event : Flat rEvent := flat_via (flat_seq (flat_I _) (flat_seq (flat_I _) (flat_seq (flat_I _) (flat_seq (flat_I _) (flat_seq (flat_I _) (flat_F _))))))
/-- What a search for a note's start answers. -/
def StartR (h : Heap) (es : List GEvent) (n : Int) (u : Value) : Prop := ∃ cs : Array Value, u = .tuple ⟨[.agg cs, .bool (startEv es n).isSome]⟩ ∧ rEvent.rd h cs.toList ((startEv es n).getD z_Event)
theorem StartR.no {es : List GEvent} {n : Int} (e : startEv es n = none) : StartR h es n (.tuple ⟨[.agg ⟨[.int .i64 (0 : Int), .int .i64 (0 : Int), .int .i64 (0 : Int), .int .i64 (0 : Int), .int .i64 (0 : Int), .float .f32 0]⟩, .bool false]⟩) :=
  ⟨_, by rw [e]; rfl, by rw [e]; exact rEvent.look zow_Event (Mem.start h) (List.nil_sublist _)⟩
theorem StartR.yes {es : List GEvent} {n : Int} {e : GEvent} {cs : Array Value} {h0 : Heap} (he : startEv es n = some e) (R : rEvent.rd h0 cs.toList e) : StartR h es n (.tuple ⟨[.agg cs, .bool true]⟩) :=
  ⟨cs, by rw [he]; rfl, by rw [he]; exact rEvent.look (flat_Event _ _ _ R) (Mem.start h) (List.nil_sublist _)⟩
end
end Go.Sx
/- Strings plucked. -/
set_option linter.unusedVariables false
set_option linter.unusedSimpArgs false
namespace Go.Sx
open Go.Proofs Ieee
set_option maxRecDepth 100000
set_option maxHeartbeats 1000000

/-- Where the sample lies that is the i-th, the oldest being the first. -/
def turnAt (r : GRing) (i : Nat) : Nat := ((r.At + (i : Int)) % r.len).toNat
/-- A ring whose first i samples are changed. -/
def chg (f : Nat → Nat → Nat) (r : GRing) : Nat → GRing
  | 0 => r
  | i + 1 => ⟨(chg f r i).Samples.set (turnAt r i) (f i (chg f r i).Samples[turnAt r i]!), r.At⟩
theorem chg_at (f : Nat → Nat → Nat) (r : GRing) (i : Nat) : (chg f r i).At = r.At := by cases i <;> rfl
theorem chg_len (f : Nat → Nat → Nat) (r : GRing) : ∀ i, (chg f r i).Samples.length = r.Samples.length
  | 0 => rfl
  | i + 1 => by rw [chg, List.length_set]; exact chg_len f r i
def pluckD (n p f i : Nat) : Nat := fmul .f32 f (if flt .f32 (FloatKind.f32.nearest ((i : Nat) : Int)) p then fdiv .f32 (FloatKind.f32.nearest ((i : Nat) : Int)) p else fdiv .f32 (fsub .f32 n (FloatKind.f32.nearest ((i : Nat) : Int))) (fsub .f32 n p))
def pluckF (n p f i a : Nat) : Nat := fadd .f32 a (pluckD n p f i)
def GString.plucked (x : GString) (pl f : Nat) : GString := { x with Loop := chg (pluckF (FloatKind.f32.nearest ((x.Loop.Samples.length : Nat) : Int)) (fmul .f32 pl (FloatKind.f32.nearest ((x.Loop.Samples.length : Nat) : Int))) f) x.Loop x.Loop.Samples.length }
def GString.pluck (x : GString) (pl f : Nat) : GString × Int := if x.ok then if place pl then if fin f then (x.plucked pl f, 0) else (z_String, 2) else (z_String, 2) else (z_String, 1)
/-- A filter's cells by its parts. -/
def flT (v : Int × Nat × Nat × Nat × Nat × Nat) : List Value := flC v.1 v.2.1 v.2.2.1 v.2.2.2.1 v.2.2.2.2.1 v.2.2.2.2.2
def stL (b : Option Addr) (l c : Nat) (t : Int) (v1 v2 : Int × Nat × Nat × Nat × Nat × Nat) (y : Nat) : List Value := [.slice b l c, .int .i64 t] ++ (flT v1 ++ (flT v2 ++ [.float .f32 y]))
end Go.Sx
/- Whole parts of periods; new bows. -/
set_option linter.unusedVariables false
set_option linter.unusedSimpArgs false
namespace Go.Sx
open Go.Proofs Ieee
set_option maxRecDepth 100000
set_option maxHeartbeats 1000000

def floorZ (a : Nat) : Int := if flt .f32 a 1232348160 then ((floorN a : Nat) : Int) else 0
def bowN (p : Int) : Int := if p / 8 < 1 then 1 else p / 8
def bowOf (p : Int) (k l s : Nat) : GBow := { Neck := ⟨List.replicate (p - bowN p).toNat 0, 0⟩, Bridge := ⟨List.replicate (bowN p).toNat 0, 0⟩, Damp := onePole k, Slope := s, Loss := l }
def newBow (p : Int) (k l s : Nat) : GBow × Int := if inR p 2 1024 then if place k then if inside l 0 1065353216 then if fin s then (bowOf p k l s, 0) else (z_Bow, 2) else (z_Bow, 2) else (z_Bow, 2) else (z_Bow, 2)
theorem c8 : FW .f32 1040187392 1040187392 := fw_c32 (by decide) (by decide)
end Go.Sx
/- New bows: the rule's and the program's. -/
set_option linter.unusedVariables false
set_option linter.unusedSimpArgs false
namespace Go.Sx
open Go.Proofs Ieee
set_option maxRecDepth 100000
set_option maxHeartbeats 2000000

section
variable {h : Heap} {x a : Nat}
/-- A slice of zeros made. -/
theorem make_z {n : Nat} {F : Nat → Heap → Prop} {h0 hh : Heap} {L : List Blk} (M : Mem h0 hh L) (hn : n ≤ 1024)
    (H : ∀ g h' B, Ext hh h' → Mem h0 h' (B ++ L) → SlO T_float32 (rF .f32) B (some ⟨g, 0, none⟩) n n (List.replicate n 0) → F g h') : MKS ti_float32 T_float32 (n : Int) (n : Int) F hh :=
  make_sl (r := rF .f32) (z := 0) (zc := [.float .f32 0]) ⟨rfl, 0, rfl, fw0⟩ rfl rfl (by decide) M (by show 4 * n ≤ 2 ^ 48; omega) (Nat.le_trans hn (by decide)) fun g h' x M O => H g h' _ x M O
end
end Go.Sx
/- Cells that stay; blocks changed behind others. -/
set_option linter.unusedVariables false
set_option linter.unusedSimpArgs false
namespace Go.Sx
section
variable {h : Heap}
theorem Mem.pin1 {h0 h' : Heap} {L : List Blk} {g j : Nat} {cs : Array Value} {p : Prop} (M : Mem h0 h L) (l : Look L g cs) (hj : j < cs.size) (X : Ext h h') (H : p) : PIN h ⟨g, j, none⟩ 1 h' p := by
  refine Sx.pin X (fun k hk => ⟨cs[j], ?_⟩) H
  obtain rfl : k = 0 := by omega
  rw [add0, M.cell l]
  simp [hj]
theorem Upd.skip {B L L' : List Blk} {g : Nat} {cs : Array Value} (k : Upd L g cs L') : Upd (B ++ L) g cs (B ++ L') := by
  induction B with
  | nil => exact k
  | cons p B ih => exact .there ih
end
end Go.Sx
/- New pipes of one section: the rule's. -/
set_option linter.unusedVariables false
set_option linter.unusedSimpArgs false
namespace Go.Sx
open Go.Proofs Ieee
set_option maxRecDepth 100000
set_option maxHeartbeats 2000000

def quietR (n : Int) : GRing := ⟨List.replicate n.toNat 0, 0⟩
def pipeOf (n : Int) (op : Bool) (k l : Nat) : GPipe := { Right := [quietR n], Left := [quietR n], Scatter := [], End := onePole k, Open := op, Loss := l, Rest := 1061158912, Slope := 3200253952 }
def pipeIf (ok : Bool) (n : Int) (op : Bool) (k l : Nat) : GPipe × Int := if ok && inR n 1 1024 then (pipeOf n op k l, 0) else (z_Pipe, 2)
def newPipe (n : Int) (op : Bool) (k l : Nat) : GPipe × Int := pipeIf (place k && inside l 0 1065353216) n op k l
theorem pipe_ow {x : GPipe} {B1 B2 B3 : List Blk} {b1 b2 b3 : Option Addr} {l1 c1 l2 c2 l3 c3 : Nat} {v : List Value} {y1 y2 y3 : Nat} (O1 : SlO T_impl_Ring rRing B1 b1 l1 c1 x.Right) (O2 : SlO T_impl_Ring rRing B2 b2 l2 c2 x.Left) (O3 : SlO T_float32 (rF .f32) B3 b3 l3 c3 x.Scatter)
    (hv : rFilter.ow [] v x.End) (h1 : FW .f32 y1 x.Loss) (h2 : FW .f32 y2 x.Rest) (h3 : FW .f32 y3 x.Slope) :
    rPipe.ow (B1 ++ (B2 ++ B3)) ([.slice b1 l1 c1] ++ ([.slice b2 l2 c2] ++ ([.slice b3 l3 c3] ++ (v ++ [.bool x.Open, .float .f32 y1, .float .f32 y2, .float .f32 y3])))) x :=
  ⟨B1, B2 ++ B3, [.slice b1 l1 c1], _, rfl, rfl, ⟨b1, l1, c1, rfl, O1⟩, B2, B3, [.slice b2 l2 c2], _, rfl, rfl, ⟨b2, l2, c2, rfl, O2⟩, B3, [], [.slice b3 l3 c3], _, by simp, rfl, ⟨b3, l3, c3, rfl, O3⟩,
    [], [], v, _, rfl, rfl, hv, [], [], [.bool x.Open], _, rfl, rfl, ⟨rfl, rfl⟩, [], [], [.float .f32 y1], _, rfl, rfl, ⟨rfl, y1, rfl, h1⟩, [], [], [.float .f32 y2], [.float .f32 y3], rfl, rfl, ⟨rfl, y2, rfl, h2⟩, ⟨rfl, y3, rfl, h3⟩⟩
/-- A pipe's cells. -/
def ppC (b1 : Option Addr) (l1 c1 : Nat) (b2 : Option Addr) (l2 c2 : Nat) (b3 : Option Addr) (l3 c3 : Nat) (k : Int) (a b : Nat) (op : Bool) (y : Nat) : List Value :=
  [.slice b1 l1 c1] ++ ([.slice b2 l2 c2] ++ ([.slice b3 l3 c3] ++ (flC k a b 0 0 0 ++ [.bool op, .float .f32 y, .float .f32 1061158912, .float .f32 3200253952])))
theorem cRest : FW .f32 1061158912 1061158912 := fw_c32 (by decide) (by decide)
theorem cSlope : FW .f32 3200253952 3200253952 := fw_c32 (by decide) (by decide)
section
variable {h : Heap} {x a : Nat}
/-- A ring appended to an own slice of rings. -/
theorem push_ring {h0 hh : Heap} {B Bn L : List Blk} {b bb : Option Addr} {l c ll cc n : Nat} {xs : List GRing} {K : Value → Heap → Prop} {ty : Nat} {Q : Heap → Prop → Prop} (O : SlO T_impl_Ring rRing B b l c xs) (M : Mem h0 hh (B ++ (Bn ++ L))) (Or : SlO T_float32 (rF .f32) Bn bb ll cc (List.replicate n 0)) (hl : l ≤ 8)
    (Hp : ∀ (h' : Heap) (p : Prop), Ext hh h' → p → Q h' p)
    (H : ∀ b' c' h' B', Ext hh hh → SlO T_impl_Ring rRing B' b' (l + 1) c' (xs ++ [⟨List.replicate n 0, 0⟩]) → Mem h0 h' (B' ++ L) → K (.slice b' (l + 1) c') h') :
    ALC ⟨[.slice bb ll cc, .int .i64 (0 : Int)]⟩ T_impl_Ring (fun g h => Q h (SEMV prg (Builtin.append_ #[T_sl_impl_Ring, T_sl_impl_Ring] ty #[.slice b l c, .slice (some ⟨g, 0, none⟩) 1 1]) K h)) hh := by
  have hm : (9 : Nat) ≤ maxLen := by decide
  refine M.alc fun g h1 x1 M1 => Hp _ _ x1 ?_
  have M2 : Mem h0 h1 (B ++ (Bn ++ ((g, T_impl_Ring, ⟨[.slice bb ll cc, .int .i64 (0 : Int)]⟩) :: L))) := M1.cnt (fun p => by simp only [cnt_app, cnt_cons, cnt_nil] at *; omega)
  refine O.app (news := [.slice bb ll cc, .int .i64 (0 : Int)]) E_sl_impl_Ring M2 (ys := [⟨List.replicate n 0, 0⟩]) rfl ⟨Bn, [], [.slice bb ll cc, .int .i64 (0 : Int)], [], by simp, by simp, ring_ow (r := ⟨List.replicate n 0, 0⟩) Or, rfl, rfl⟩ (fun j v hj => ?_) (by omega) (by omega) fun b' c' h' B' O' M' => H b' c' h' B' (Ext.refl _) O' (M'.cnt (fun p => by simp only [cnt_app, cnt_cons, cnt_nil] at *; omega))
  rw [add_none, Nat.zero_add, M1.cell .here, ← hj]; simp
end
end Go.Sx
/- Voices, the program's; how many events have happened. -/
set_option linter.unusedVariables false
set_option linter.unusedSimpArgs false
namespace Go.Sx
open Go.Proofs
set_option maxRecDepth 100000
set_option maxHeartbeats 2000000

/-- How many events lie before a time. -/
def hap (es : List GEvent) (now : Int) : Nat := es.countP fun e => decide (e.At < now)
end Go.Sx
/- Players: the rule's and the program's. -/
set_option linter.unusedVariables false
set_option linter.unusedSimpArgs false
namespace Go.Sx
open Go.Proofs
set_option maxRecDepth 100000
set_option maxHeartbeats 2000000

noncomputable def voicesAt (p : GPlayer) (i : Nat) : Bool := voiceOk p.Score p.Voices[i]! && (decide (p.Voices[i]!.Note < 0) || (decide (p.Voices[i]!.Born < p.Now) && (List.range i).all fun k => !(p.Voices[k]!.Note == p.Voices[i]!.Note)))
noncomputable def GPlayer.ok (p : GPlayer) : Bool := p.Score.ok && inR p.Voices.length 1 6 && inR p.Now 0 200000 && inR p.Skipped 0 64 && (p.Next == (hap p.Score.Events p.Now : Int)) && (List.range p.Voices.length).all (voicesAt p)
end Go.Sx
/- The voice of a start, plain; periods have no sign. -/
set_option linter.unusedVariables false
set_option linter.unusedSimpArgs false
namespace Go.Sx
open Go.Proofs Ieee
set_option maxRecDepth 100000
set_option maxHeartbeats 1000000

def by2 (c : Nat) : Nat := if feq .f32 c 1065353216 then 1073741824 else 1082130432
def baseV (e : GEvent) : GVoice := { z_Voice with Note := e.Note, Instrument := e.Instrument, Born := e.At }
def voiceOf (s : GScore) (e : GEvent) : Option GVoice :=
  let x := s.Instruments[e.Instrument.toNat]!
  let p := s.Tuning.period e.Key s.Rate
  if p.2 = 0 then
    if x.Kind = 1 then
      if (newString p.1 x.A x.B).2 = 0 then
        if ((newString p.1 x.A x.B).1.pluck x.C e.Force).2 = 0 then some { baseV e with String := ((newString p.1 x.A x.B).1.pluck x.C e.Force).1 } else none
      else none
    else if x.Kind = 2 then
      if (newPipe (floorZ (fdiv .f32 p.1 (by2 x.C))) (feq .f32 x.C 1065353216) x.A x.B).2 = 0 then some { baseV e with Pipe := (newPipe (floorZ (fdiv .f32 p.1 (by2 x.C))) (feq .f32 x.C 1065353216) x.A x.B).1, Drive := e.Force } else none
    else if (newBow (floorZ p.1) x.A x.B x.C).2 = 0 then some { baseV e with Bow := (newBow (floorZ p.1) x.A x.B x.C).1, Drive := e.Force } else none
  else none
end Go.Sx
