/- What functions of this seat's program compute, told in words (a predicate over heaps for each), and the proofs that the words are no more than the code's own weakest precondition. -/
import Derived.Test.YtnhcoeogejgidadGreatDoorTab
import Derived.Test.YtnhcoeogejgidadGreatDoorLk1
import Derived.Test.YtnhcoeogejgidadGreatDoorLva
import Derived.Test.YtnhcoeogejgidadGreatDoorLr3
namespace Go.Sx
open Go.Proofs
set_option linter.unusedVariables false
set_option maxRecDepth 100000

def spec_l04Ok.B10 (Post : Value → Heap → Prop) (N10 : (Addr × Int × Int) → Heap → Prop) : Addr × Int × Int → Heap → Prop
  | (x_0, n_3, i_5), h =>
    BIF ((decide (i_5 < (IntKind.i64.wrap (n_3 - (1 : Int)))))) (
    oL (cell h (Addr.add x_0 2)) fun l28b l28l l28c =>
    IDXS l28b i_5 l28l fun p29 =>
    oF .f32 (cell h ((Addr.add p29 ((Int.toNat i_5) * 1)))) fun r30 =>
    BIF (FloatKind.f32.format.order r30 3212836864 == some .gt || FloatKind.f32.format.order r30 3212836864 == some .eq) (
    oL (cell h (Addr.add x_0 2)) fun l31b l31l l31c =>
    IDXS l31b i_5 l31l fun p32 =>
    oF .f32 (cell h ((Addr.add p32 ((Int.toNat i_5) * 1)))) fun r33 =>
    BIF (!(FloatKind.f32.format.order r33 1065353216 == some .lt || FloatKind.f32.format.order r33 1065353216 == some .eq)) (
    Post (.bool false) h) (
    N10 (x_0, n_3, ((IntKind.i64.wrap (i_5 + (1 : Int))))) h)) (
    Post (.bool false) h)) (
    CALL prg f_spec_l02Ok #[.pointer (some (Addr.add x_0 3))] (fun q34 h35 =>
    asB q34 fun b36 =>
    BIF b36 (
    oI .i64 (cell h35 (Addr.add x_0 3)) fun n37 =>
    BIF (n37 == (1 : Int)) (
    oF .f32 (cell h35 (Addr.add x_0 10)) fun r38 =>
    oF .f32 (cell h35 (Addr.add x_0 11)) fun r39 =>
    oF .f32 (cell h35 (Addr.add x_0 12)) fun r40 =>
    ALC ⟨[.float .f32 r38, .float .f32 r39, .float .f32 r40]⟩ T_float32 (fun g41 h42 =>
    CALL prg f_spec_l04All #[.slice (some ⟨g41, 0, none⟩) 3 3] (fun q43 h44 =>
    asB q43 fun b45 =>
    Post (.bool b45) h44) h42) h35) (
    Post (.bool false) h35)) (
    Post (.bool false) h35)) h)
def spec_l04Ok.g10 (fr : Frame) : Addr × Int × Int := ((gP (lget fr 0)), (gI (lget fr 3)), (gI (lget fr 5)))
def spec_l04Ok.l10 (Post : Value → Heap → Prop) : Frame → Heap → Prop := fun fr h => GRD (shape (kds 129 [(0, .p), (3, .i .i64), (5, .i .i64)]) fr) (LOOP (spec_l04Ok.B10 Post) (spec_l04Ok.g10 fr) h)
def spec_l04Ok.B5 (Post : Value → Heap → Prop) (N5 : (Addr × Int × Int) → Heap → Prop) : Addr × Int × Int → Heap → Prop
  | (x_0, n_3, i_4), h =>
    BIF (decide (i_4 < n_3)) (
    oL (cell h x_0) fun l18b l18l l18c =>
    IDXS l18b i_4 l18l fun p19 =>
    oL (cell h ((Addr.add p19 ((Int.toNat i_4) * 2)))) fun l20b l20l l20c =>
    oL (cell h (Addr.add x_0 1)) fun l23b l23l l23c =>
    IDXS l23b i_4 l23l fun p24 =>
    oL (cell h ((Addr.add p24 ((Int.toNat i_4) * 2)))) fun l25b l25l l25c =>
    BIF ((l20l : Int) != (l25l : Int)) (
    Post (.bool false) h) (
    N5 (x_0, n_3, ((IntKind.i64.wrap (i_4 + (1 : Int))))) h)) (
    LOOP (spec_l04Ok.B10 Post) (x_0, n_3, (0 : Int)) h)
def spec_l04Ok.g5 (fr : Frame) : Addr × Int × Int := ((gP (lget fr 0)), (gI (lget fr 3)), (gI (lget fr 4)))
def spec_l04Ok.l5 (Post : Value → Heap → Prop) : Frame → Heap → Prop := fun fr h => GRD (shape (kds 129 [(0, .p), (3, .i .i64), (4, .i .i64)]) fr) (LOOP (spec_l04Ok.B5 Post) (spec_l04Ok.g5 fr) h)
def spec_l04Ok.J4 (Post : Value → Heap → Prop) (x_0 : Addr) (n_3 : Int) (h : Heap) : Prop :=
    LOOP (spec_l04Ok.B5 Post) (x_0, n_3, (0 : Int)) h
def spec_l04Ok.j4 (Post : Value → Heap → Prop) : Frame → Heap → Prop := fun fr h => GRD (shape (kds 129 [(0, .p), (3, .i .i64)]) fr) (spec_l04Ok.J4 Post (gP (lget fr 0)) (gI (lget fr 3)) h)
def spec_l04Ok.S (x_0 : Addr) (Post : Value → Heap → Prop) (h : Heap) : Prop :=
    oL (cell h x_0) fun l1b l1l l1c =>
    BIF ((decide ((l1l : Int) < (1 : Int)))) (
    Post (.bool false) h) (
    BIF ((decide ((3 : Int) < (l1l : Int)))) (
    Post (.bool false) h) (
    oL (cell h (Addr.add x_0 1)) fun l4b l4l l4c =>
    BIF ((l4l : Int) != (l1l : Int)) (
    Post (.bool false) h) (
    oL (cell h (Addr.add x_0 2)) fun l7b l7l l7c =>
    BIF (((l7l : Int) != (IntKind.i64.wrap ((l1l : Int) - (1 : Int))))) (
    Post (.bool false) h) (
    oL (cell h x_0) fun l10b l10l l10c =>
    CALL prg f_spec_l04Rings #[.slice l10b l10l l10c] (fun q11 h12 =>
    asB q11 fun b13 =>
    BIF (!b13) (
    Post (.bool false) h12) (
    oL (cell h12 (Addr.add x_0 1)) fun l14b l14l l14c =>
    CALL prg f_spec_l04Rings #[.slice l14b l14l l14c] (fun q15 h16 =>
    asB q15 fun b17 =>
    BIF (!b17) (
    Post (.bool false) h16) (
    spec_l04Ok.J4 Post x_0 (l1l : Int) h16)) h12)) h))))
noncomputable def spec_l04Ok.code : Code := (Tryz.f139.body).getD .skip
theorem spec_l04Ok.call {x_0 : Addr} {Post : Value → Heap → Prop} {h : Heap} (H : spec_l04Ok.S x_0 Post h) : CALL prg f_spec_l04Ok #[.pointer (some x_0)] Post h :=
  fn_call tau_ok mixed (c := spec_l04Ok.code) (Λ := lookL [(4, spec_l04Ok.j4 Post), (1000005, spec_l04Ok.l5 Post), (1000010, spec_l04Ok.l10 Post)]) Tryz.func139 (by kernel_rfl) (by kernel_rfl)
    (Rq.seq (by kernel_rfl) (Rq.free (by kernel_rfl)) (Rq.seq (by kernel_rfl) (Rq.free (by kernel_rfl)) (Rq.seqJ (spec_l04Ok.j4 Post) (by kernel_rfl) (seg (fun _ _ => by kernel_rfl)) (Rq.free (by kernel_rfl))
(Rq.seq (by kernel_rfl) (Rq.seq (by kernel_rfl) (Rq.free (by kernel_rfl)) (Rq.block (Rq.loop (spec_l04Ok.l5 Post) (by kernel_rfl) (segL (g := spec_l04Ok.g5) tau_ok mixed (Λ := fun N5 => lookL []) (fun _ _ _ => by kernel_rfl) (fun N5 => (Rq.free (by kernel_rfl))))))) (Rq.seq (by kernel_rfl) (Rq.seq (by kernel_rfl) (Rq.free (by kernel_rfl)) (Rq.block (Rq.loop (spec_l04Ok.l10 Post) (by kernel_rfl) (segL (g := spec_l04Ok.g10) tau_ok mixed (Λ := fun N10 => lookL []) (fun _ _ _ => by kernel_rfl) (fun N10 => (Rq.free (by kernel_rfl))))))) (Rq.free (by kernel_rfl)))))))
    (Eq.mp (by kernel_rfl) H)

def impl_ValidPipe_c1.S (k_0 : Nat) (Post : Value → Heap → Prop) (h : Heap) : Prop :=
    CALL prg f_impl_inside #[.float .f32 k_0, .float .f32 3212836864, .float .f32 1065353216] (fun q1 h2 =>
    asB q1 fun b3 =>
    Post (.bool (!b3)) h2) h
noncomputable def impl_ValidPipe_c1.code : Code := (Tryz.f225.body).getD .skip
theorem impl_ValidPipe_c1.call {k_0 : Nat} {Post : Value → Heap → Prop} {h : Heap} (H : impl_ValidPipe_c1.S k_0 Post h) : CALL prg f_impl_ValidPipe_c1 #[.float .f32 k_0] Post h :=
  fn_call tau_ok mixed (c := impl_ValidPipe_c1.code) (Λ := lookL []) Tryz.func225 (by kernel_rfl) (by kernel_rfl)
    (Rq.free (by kernel_rfl))
    (Eq.mp (by kernel_rfl) H)

def impl_ValidPipe.B5 (Post : Value → Heap → Prop) (N5 : (Addr × Option Addr × Nat × Nat × Int × Int) → Heap → Prop) : Addr × Option Addr × Nat × Nat × Int × Int → Heap → Prop
  | (x_1, t45b, t45l, t45c, t46, t47), h =>
    BIF (decide (t47 < t46)) (
    IDXS t45b t47 t45l fun p30 =>
    LDA 2 h ((Addr.add p30 ((Int.toNat t47) * 2))) fun a31 =>
    ALC ⟨Z_impl_Ring⟩ T_impl_Ring (fun g32 h33 =>
    STA 2 h33 ⟨g32, 0, none⟩ a31 fun h34 =>
    LDA 2 h34 ⟨g32, 0, none⟩ fun a35 =>
    CALL prg f_impl_isRing #[.agg a35] (fun q36 h37 =>
    asB q36 fun b38 =>
    BIF (!b38) (
    Post (.bool false) h37) (
    oL (cell h37 (Addr.add x_1 1)) fun l39b l39l l39c =>
    IDXS l39b t47 l39l fun p40 =>
    LDA 2 h37 ((Addr.add p40 ((Int.toNat t47) * 2))) fun a41 =>
    CALL prg f_impl_isRing #[.agg a41] (fun q42 h43 =>
    asB q42 fun b44 =>
    BIF (!b44) (
    Post (.bool false) h43) (
    oL (cell h43 ⟨g32, 0, none⟩) fun l45b l45l l45c =>
    oL (cell h43 (Addr.add x_1 1)) fun l48b l48l l48c =>
    IDXS l48b t47 l48l fun p49 =>
    oL (cell h43 ((Addr.add p49 ((Int.toNat t47) * 2)))) fun l50b l50l l50c =>
    BIF ((l45l : Int) != (l50l : Int)) (
    Post (.bool false) h43) (
    N5 (x_1, t45b, t45l, t45c, t46, ((IntKind.i64.wrap (t47 + (1 : Int))))) h43))) h37)) h34) h) (
    oL (cell h (Addr.add x_1 2)) fun l53b l53l l53c =>
    CALL prg f_slices_ContainsFunc_sl_float32_float32 #[.slice l53b l53l l53c, .func (.func 225) #[] #[]] (fun q54 h55 =>
    asB q54 fun b56 =>
    Post (.bool (!b56)) h55) h)
def impl_ValidPipe.g5 (fr : Frame) : Addr × Option Addr × Nat × Nat × Int × Int := ((gP (lget fr 1)), (gLb (lget fr 45)), (gLl (lget fr 45)), (gLc (lget fr 45)), (gI (lget fr 46)), (gI (lget fr 47)))
def impl_ValidPipe.l5 (Post : Value → Heap → Prop) : Frame → Heap → Prop := fun fr h => GRD (shape (kds 82 [(1, .p), (45, .l), (46, .i .i64), (47, .i .i64)]) fr) (LOOP (impl_ValidPipe.B5 Post) (impl_ValidPipe.g5 fr) h)
def impl_ValidPipe.J4 (Post : Value → Heap → Prop) (x_1 : Addr) (h : Heap) : Prop :=
    oL (cell h x_1) fun l27b l27l l27c =>
    LOOP (impl_ValidPipe.B5 Post) (x_1, l27b, l27l, l27c, (l27l : Int), (0 : Int)) h
def impl_ValidPipe.j4 (Post : Value → Heap → Prop) : Frame → Heap → Prop := fun fr h => GRD (shape (kds 82 [(1, .p)]) fr) (impl_ValidPipe.J4 Post (gP (lget fr 1)) h)
def impl_ValidPipe.S (x_0 : Array Value) (Post : Value → Heap → Prop) (h : Heap) : Prop :=
    ALC x_0 T_impl_Pipe (fun g1 h2 =>
    oL (cell h2 ⟨g1, 0, none⟩) fun l3b l3l l3c =>
    CALL prg f_impl_within #[.int .i64 (l3l : Int), .int .i64 (1 : Int), .int .i64 (3 : Int)] (fun q6 h7 =>
    asB q6 fun b8 =>
    BIF (!b8) (
    Post (.bool false) h7) (
    oL (cell h7 ⟨g1, 1, none⟩) fun l9b l9l l9c =>
    BIF ((l9l : Int) != (l3l : Int)) (
    Post (.bool false) h7) (
    oL (cell h7 ⟨g1, 2, none⟩) fun l12b l12l l12c =>
    BIF (((l12l : Int) != (IntKind.i64.wrap ((l3l : Int) - (1 : Int))))) (
    Post (.bool false) h7) (
    LDA 6 h7 ⟨g1, 3, none⟩ fun a15 =>
    CALL prg f_impl_isFilter #[.agg a15, .int .i64 (1 : Int)] (fun q16 h17 =>
    asB q16 fun b18 =>
    BIF (!b18) (
    Post (.bool false) h17) (
    oF .f32 (cell h17 ⟨g1, 10, none⟩) fun r19 =>
    oF .f32 (cell h17 ⟨g1, 11, none⟩) fun r20 =>
    oF .f32 (cell h17 ⟨g1, 12, none⟩) fun r21 =>
    ALC ⟨[.float .f32 r19, .float .f32 r20, .float .f32 r21]⟩ T_float32 (fun g22 h23 =>
    CALL prg f_impl_areFinite #[.slice (some ⟨g22, 0, none⟩) 3 3] (fun q24 h25 =>
    asB q24 fun b26 =>
    BIF (!b26) (
    Post (.bool false) h25) (
    impl_ValidPipe.J4 Post ⟨g1, 0, none⟩ h25)) h23) h17)) h7)))) h2) h
noncomputable def impl_ValidPipe.code : Code := (Tryz.f155.body).getD .skip
theorem impl_ValidPipe.call {x_0 : Array Value} {Post : Value → Heap → Prop} {h : Heap} (H : impl_ValidPipe.S x_0 Post h) : CALL prg f_impl_ValidPipe #[.agg x_0] Post h :=
  fn_call tau_ok mixed (c := impl_ValidPipe.code) (Λ := lookL [(4, impl_ValidPipe.j4 Post), (1000005, impl_ValidPipe.l5 Post)]) Tryz.func155 (by kernel_rfl) (by kernel_rfl)
    (Rq.seq (by kernel_rfl) (Rq.free (by kernel_rfl)) (Rq.seq (by kernel_rfl) (Rq.free (by kernel_rfl)) (Rq.seqJ (impl_ValidPipe.j4 Post) (by kernel_rfl) (seg (fun _ _ => by kernel_rfl)) (Rq.free (by kernel_rfl))
(Rq.seq (by kernel_rfl) (Rq.seq (by kernel_rfl) (Rq.free (by kernel_rfl)) (Rq.block (Rq.loop (impl_ValidPipe.l5 Post) (by kernel_rfl) (segL (g := impl_ValidPipe.g5) tau_ok mixed (Λ := fun N5 => lookL []) (fun _ _ _ => by kernel_rfl) (fun N5 => (Rq.free (by kernel_rfl))))))) (Rq.free (by kernel_rfl))))))
    (Eq.mp (by kernel_rfl) H)

end Go.Sx
/- Rings copied in lists; reeds. -/
set_option linter.unusedVariables false
set_option linter.unusedSimpArgs false
namespace Go.Sx
open Go.Proofs
set_option maxRecDepth 100000
set_option maxHeartbeats 1000000

section
variable {h : Heap} {b : Option Addr} {l c : Nat} {rs : List GRing}
theorem fwone : FW .f32 1065353216 one32 := fw_c32 (by decide) (by decide)
end
end Go.Sx
/- Pipes: valid ones, as the rule tells them. -/
set_option linter.unusedVariables false
set_option linter.unusedSimpArgs false
namespace Go.Sx
open Go.Proofs
set_option maxRecDepth 100000
set_option maxHeartbeats 1000000

section
variable {h : Heap} {q : Addr} {x : GPipe}
theorem fwneg : FW .f32 3212836864 neg32 := fw_c32 (by decide) (by decide)
theorem pipe_ok (x : GPipe) : x.ok = (inR x.n 1 3 && decide (x.Left.length = x.n) && decide (x.Scatter.length + 1 = x.n) && x.Right.all GRing.okf && x.Left.all GRing.okf && ((List.range x.n).all fun i => x.Right[i]!.Samples.length == x.Left[i]!.Samples.length) &&
    (x.Scatter.all fun k => inside k neg32 one32) && x.End.ok && (x.End.Kind == 1) && fin x.Loss && fin x.Rest && fin x.Slope) := rfl
theorem l04Ok_c (R : RdP rPipe h q x) : CALL prg f_spec_l04Ok #[.pointer (some q)] (fun u h' => u = .bool x.ok ∧ Ext h h') h := by
  have E0 := Ext.refl h
  refine spec_l04Ok.call (R.oL1 fun b1 l1 c1 S1 => ?_)
  have hl1 : x.Right.length = l1 := S1.len
  have hn : x.n = l1 := hl1
  have k1 := S1.2.1
  have k2 := S1.2.2.1
  have k3 := maxLen_lt
  refine brd (fun hc => ⟨?_, E0⟩) fun hc => brd (fun hc2 => ⟨?_, E0⟩) fun hc2 => R.oL fun b4 l4 c4 S4 => ?_
  · rw [pipe_ok, show inR x.n 1 3 = false by unfold inR; simp only [Bool.and_eq_false_iff, decide_eq_false_iff_not]; omega]; rfl
  · rw [pipe_ok, show inR x.n 1 3 = false by unfold inR; simp only [Bool.and_eq_false_iff, decide_eq_false_iff_not]; omega]; rfl
  have hl4 : x.Left.length = l4 := S4.len
  have h1 : inR x.n 1 3 = true := by unfold inR; simp only [Bool.and_eq_true, decide_eq_true_eq]; omega
  refine br (fun hb => ⟨?_, E0⟩) fun hb => ?_
  · have : decide (x.Left.length = x.n) = false := by simp only [decide_eq_false_iff_not]; simp at hb; omega
    rw [pipe_ok, this]; simp
  have e4 : l4 = l1 := by simp at hb; omega
  have h2 : decide (x.Left.length = x.n) = true := by simp only [decide_eq_true_eq]; omega
  refine R.oL fun b7 l7 c7 S7 => ?_
  have hl7 : x.Scatter.length = l7 := S7.len
  rw [wrap64 (n := (l1 : Int) - 1) (by omega) (by omega)]
  refine br (fun hb => ⟨?_, E0⟩) fun hb => ?_
  · have : decide (x.Scatter.length + 1 = x.n) = false := by simp only [decide_eq_false_iff_not]; simp at hb; omega
    rw [pipe_ok, this]; simp
  have e7 : l7 + 1 = l1 := by simp at hb; omega
  have h3 : decide (x.Scatter.length + 1 = x.n) = true := by simp only [decide_eq_true_eq]; omega
  refine R.oL1 fun b1 l1' c1 S1' => goX (l04Rings_c S1') fun ha xa => as_b (br (fun hb => ⟨?_, xa⟩) fun hb => ?_)
  · rw [pipe_ok, nt hb]; simp
  have h4 := nf hb
  refine (R.ext xa).oL fun b4 l4' c4 S4' => goX (l04Rings_c S4') fun hd xb => as_b (br (fun hb => ⟨?_, xa.trans xb⟩) fun hb => ?_)
  · rw [pipe_ok, nt hb]; simp
  have h5 := nf hb
  unfold spec_l04Ok.J4
  have X := xa.trans xb
  refine loop (fun y hh => ∃ n : Nat, y = (q, (l1 : Int), (n : Int)) ∧ n ≤ l1 ∧ hh = hd ∧ ∀ i, i < n → (x.Right[i]!.Samples.length == x.Left[i]!.Samples.length) = true) (fun y => (l1 - y.2.2).toNat) ⟨0, rfl, by omega, rfl, fun i hi => by omega⟩ ?_
  rintro y hh ⟨n, rfl, hn', rfl, hz⟩
  refine brd (fun hc => ?_) fun hc => ?_
  · refine (R.ext X).oL1 fun b l c S => ?_
    have hlS := S.len
    refine S.idx ring_sz (by omega) (by omega) fun p Rp => Rp.oL1 fun b2 l2 c2 S2 => (R.ext X).oL fun b3 l3 c3 S3 => ?_
    have hlS3 := S3.len
    refine S3.idx ring_sz (by omega) (by omega) fun p Rp => Rp.oL1 fun b5 l5 c5 S5 => ?_
    have f2 : x.Right[n]!.Samples.length = l2 := S2.len
    have f5 : x.Left[n]!.Samples.length = l5 := S5.len
    refine br (fun hb => ⟨?_, X⟩) fun hb => ?_
    · have : (x.Right[n]!.Samples.length == x.Left[n]!.Samples.length) = false := by rw [f2, f5]; simp at hb ⊢; omega
      rw [pipe_ok, all_false (f := fun i => x.Right[i]!.Samples.length == x.Left[i]!.Samples.length) (i := n) (by omega) this]; simp
    · refine ⟨⟨n + 1, by rw [wrap64_succ (by omega)], by omega, rfl, fun i hi => ?_⟩, by rw [wrap64_succ (by omega)]; show _ < _; simp; omega⟩
      by_cases e : i = n
      · subst e; rw [f2, f5]; simp at hb ⊢; omega
      · exact hz i (by omega)
  have h6 : ((List.range x.n).all fun i => x.Right[i]!.Samples.length == x.Left[i]!.Samples.length) = true := all_true fun i hi => hz i (by omega)
  refine loop (fun y hh' => ∃ n : Nat, y = (q, (l1 : Int), (n : Int)) ∧ n ≤ l7 ∧ hh' = hh ∧ ∀ i, i < n → inside x.Scatter[i]! neg32 one32 = true) (fun y => (l7 - y.2.2).toNat) ⟨0, rfl, by omega, rfl, fun i hi => by omega⟩ ?_
  rintro y hh' ⟨n, rfl, hn'', rfl, hz2⟩
  rw [spec_l04Ok.B10, wrap64 (n := (l1 : Int) - 1) (by omega) (by omega)]
  have no : inside x.Scatter[n]! neg32 one32 = false → n < l7 → (Value.bool false = .bool x.ok ∧ Ext h hh') := fun e hlt => ⟨by
    rw [pipe_ok, all_range (fun k => inside k neg32 one32), all_false (f := fun i => inside x.Scatter[i]! neg32 one32) (i := n) (by omega) e]; simp, X⟩
  refine brd (fun hc => ?_) fun hc => ?_
  · refine (R.ext X).oL fun b l c S => ?_
    have hlS := S.len
    refine S.idx (by decide) (by omega) (by omega) fun p Rp => Rp.oF1 fun y hy => ?_
    rw [ord_eq hy fwneg]
    refine br (fun hb => (R.ext X).oL fun b2 l2 c2 S2 => ?_) fun hb => no ?_ (by omega)
    · have hlS2 := S2.len
      refine S2.idx (by decide) (by omega) (by omega) fun p2 Rp2 => Rp2.oF1 fun z hz3 => ?_
      rw [ord_eq hz3 fwone]
      have hb : fge .f32 x.Scatter[n]! neg32 = true := hb
      refine br (fun hb2 => no ?_ (by omega)) fun hb2 => ?_
      · have hb2 : fle .f32 x.Scatter[n]! one32 = false := nt hb2
        unfold inside; rw [hb2, Bool.and_false]
      · have hb2 : fle .f32 x.Scatter[n]! one32 = true := nf hb2
        refine ⟨⟨n + 1, by rw [wrap64_succ (by omega)], by omega, rfl, fun i hi => ?_⟩, by rw [wrap64_succ (by omega)]; show _ < _; simp; omega⟩
        by_cases e : i = n
        · subst e; unfold inside; rw [hb, hb2]; rfl
        · exact hz2 i (by omega)
    · have hb : fge .f32 x.Scatter[n]! neg32 = false := hb
      unfold inside; rw [hb, Bool.false_and]
  have h7 : (x.Scatter.all fun k => inside k neg32 one32) = true := by rw [all_range (fun k => inside k neg32 one32), all_true fun i hi => hz2 i (by omega)]
  refine goX (l02Ok_c ((R.ext X).foc foc_Pipe_End)) fun he xe => as_b (br (fun hb => ?_) fun hb => ⟨?_, X.trans xe⟩)
  · have RE := R.ext (X.trans xe)
    refine RE.oI (br (fun hk => ?_) fun hk => ⟨?_, X.trans xe⟩)
    · refine RE.oF fun y1 j1 => RE.oF fun y2 j2 => RE.oF fun y3 j3 => ?_
      refine rArr_slr (r := rF .f32) (n := 3) (xs := [x.Loss, x.Rest, x.Slope]) ⟨rfl, [_], _, rfl, ⟨_, rfl, j1⟩, [_], _, rfl, ⟨_, rfl, j2⟩, [_], _, rfl, ⟨_, rfl, j3⟩, rfl⟩ (by decide) fun g' h4' x4 S => ?_
      refine goX (l04All_c S) fun h5' x5 => as_b ⟨?_, ((X.trans xe).trans x4).trans x5⟩
      have hk : (x.End.Kind == 1) = true := hk
      rw [pipe_ok, h1, h2, h3, h4, h5, h6, h7, hb, hk]; simp [allFin, Bool.and_assoc]
    · have hk : (x.End.Kind == 1) = false := hk
      rw [pipe_ok, hk]; simp
  · rw [pipe_ok, hb]; simp
end
end Go.Sx
/- Pipes: valid ones, as the program tells them. -/
set_option linter.unusedVariables false
set_option linter.unusedSimpArgs false
namespace Go.Sx
open Go.Proofs
set_option maxRecDepth 100000
set_option maxHeartbeats 1000000

section
variable {h : Heap} {q : Addr} {x : GPipe}
theorem pipe_tells : Tells prg (.func (.func f_impl_ValidPipe_c1) #[] #[]) fun k => !inside k neg32 one32 := fun x a h hx => by
  show CALL prg f_impl_ValidPipe_c1 #[.float .f32 x] _ h
  exact impl_ValidPipe_c1.call ((inside_c hx fwneg fwone).go fun h2 x2 => as_b ⟨rfl, x2⟩)
theorem ValidPipe_c {cs : Array Value} (R0 : rPipe.rd h cs.toList x) : CALL prg f_impl_ValidPipe #[.agg cs] (fun u h' => u = .bool x.ok ∧ Ext h h') h := by
  refine impl_ValidPipe.call (alcR R0 fun g h1 x1 R => R.oL2 fun b1 l1 c1 S1 => goX (within_c _ _ _ _) fun h2 x2 => as_b ?_)
  have hl1 : x.Right.length = l1 := S1.len
  have hn : x.n = l1 := hl1
  have k1 := S1.2.1
  have k2 := S1.2.2.1
  have k3 := maxLen_lt
  have X2 := x1.trans x2
  refine br (fun hb => ⟨?_, X2⟩) fun hb => ?_
  · rw [pipe_ok, hn, nt hb]; rfl
  have h1' : inR x.n 1 3 = true := by rw [hn]; exact nf hb
  have hr : 1 ≤ l1 ∧ l1 ≤ 3 := by rw [hn] at h1'; unfold inR at h1'; simp at h1'; omega
  refine (R.ext x2).oL2 fun b4 l4 c4 S4 => ?_
  have hl4 : x.Left.length = l4 := S4.len
  refine br (fun hb => ⟨?_, X2⟩) fun hb => ?_
  · have : decide (x.Left.length = x.n) = false := by simp only [decide_eq_false_iff_not]; simp at hb; omega
    rw [pipe_ok, this]; simp
  have e4 : l4 = l1 := by simp at hb; omega
  have h2' : decide (x.Left.length = x.n) = true := by simp only [decide_eq_true_eq]; omega
  refine (R.ext x2).oL2 fun b7 l7 c7 S7 => ?_
  have hl7 : x.Scatter.length = l7 := S7.len
  rw [wrap64 (n := (l1 : Int) - 1) (by omega) (by omega)]
  refine br (fun hb => ⟨?_, X2⟩) fun hb => ?_
  · have : decide (x.Scatter.length + 1 = x.n) = false := by simp only [decide_eq_false_iff_not]; simp at hb; omega
    rw [pipe_ok, this]; simp
  have h3' : decide (x.Scatter.length + 1 = x.n) = true := by simp at hb; simp only [decide_eq_true_eq]; omega
  refine (R.ext x2).lda2 foc_Pipe_End rfl fun cf Rf => goX (isFilter_c Rf _) fun h5 x5 => as_b (br (fun hb => ⟨?_, X2.trans x5⟩) fun hb => ?_)
  · have : (x.End.ok && x.End.Kind == 1) = false := nt hb
    rw [pipe_ok, Bool.and_assoc _ x.End.ok, this]; simp
  have hE : (x.End.ok && x.End.Kind == 1) = true := nf hb
  have RE := R.ext (x2.trans x5)
  refine RE.oF2 fun y1 j1 => RE.oF2 fun y2 j2 => RE.oF2 fun y3 j3 => ?_
  refine rArr_slr (r := rF .f32) (n := 3) (xs := [x.Loss, x.Rest, x.Slope]) ⟨rfl, [_], _, rfl, ⟨_, rfl, j1⟩, [_], _, rfl, ⟨_, rfl, j2⟩, [_], _, rfl, ⟨_, rfl, j3⟩, rfl⟩ (by decide) fun g' h4' x4 S => ?_
  have X4 := (X2.trans x5).trans x4
  refine goX (areFinite_c S) fun h6 x6 => as_b (br (fun hb => ⟨?_, X4.trans x6⟩) fun hb => ?_)
  · have : (fin x.Loss && fin x.Rest && fin x.Slope) = false := by have := nt hb; simpa [allFin, Bool.and_assoc] using this
    rw [pipe_ok, Bool.and_assoc _ (fin x.Rest), Bool.and_assoc _ (fin x.Loss), ← Bool.and_assoc (fin x.Loss), this]; simp
  have hF : (fin x.Loss && fin x.Rest && fin x.Slope) = true := by have := nf hb; simpa [allFin, Bool.and_assoc] using this
  unfold impl_ValidPipe.J4
  have X6 := X4.trans x6
  have RJ := R.ext (((x2.trans x5).trans x4).trans x6)
  refine RJ.oL2 fun b1' l1' c1' S1' => ?_
  have hl1' := S1'.len
  refine loop (fun y hh => ∃ n : Nat, y = (⟨g, 0, none⟩, b1', l1', c1', (l1' : Int), (n : Int)) ∧ n ≤ l1' ∧ Ext h6 hh ∧ ∀ i, i < n → (x.Right[i]!.okf && (x.Left[i]!.okf && (x.Right[i]!.Samples.length == x.Left[i]!.Samples.length))) = true) (fun y => (l1' - y.2.2.2.2.2).toNat) ⟨0, rfl, by omega, Ext.refl _, fun i hi => by omega⟩ ?_
  rintro y hh ⟨n, rfl, hn', X, hz⟩
  refine brd (fun hc => ?_) fun hc => ?_
  · have no : ∀ {h'}, Ext h6 h' → (x.Right[n]!.okf && (x.Left[n]!.okf && (x.Right[n]!.Samples.length == x.Left[n]!.Samples.length))) = false → (Value.bool false = .bool x.ok ∧ Ext h h') := fun X e => ⟨by
      rw [pipe_ok]
      rcases Bool.and_eq_false_iff.1 e with e | e
      · rw [all_range GRing.okf x.Right, all_false (f := fun i => x.Right[i]!.okf) (i := n) (by omega) e]; simp
      · rcases Bool.and_eq_false_iff.1 e with e | e
        · rw [all_range GRing.okf x.Left, all_false (f := fun i => x.Left[i]!.okf) (i := n) (by omega) e]; simp
        · rw [all_false (f := fun i => x.Right[i]!.Samples.length == x.Left[i]!.Samples.length) (i := n) (by omega) e]; simp, X6.trans X⟩
    refine (S1'.ext X).idx ring_sz (by omega) (by omega) fun p Rp => Rp.lda1 rfl fun ca Ra => (Mem.start hh).alc fun g5 h7 x7 N => N.sta0 .here (rsz Ra rfl) (rRing.rone Ra) rfl .here fun h8 N => N.lda0 .here (rsz Ra rfl) ?_
    have Ra : rRing.rd h8 ca.toList x.Right[n]! := rRing.ext N.ext Ra
    have Pa : RdP rRing h8 ⟨g5, 0, none⟩ x.Right[n]! := N.rdp .here Ra
    have X8 := X.trans N.ext
    refine goX (isRing_c Ra) fun h9 x9 => as_b (br (fun hb => no (X8.trans x9) ?_) fun hb => ?_)
    · rw [nt hb]; rfl
    have o1 := nf hb
    refine (RJ.ext (X8.trans x9)).oL fun b3 l3 c3 S3 => ?_
    have hl3 := S3.len
    refine S3.idx ring_sz (by omega) (by omega) fun p3 Rp3 => Rp3.lda1 rfl fun cb Rb => goX (isRing_c Rb) fun ha xa => as_b (br (fun hb => no ((X8.trans x9).trans xa) ?_) fun hb => ?_)
    · have hb : x.Left[n]!.okf = false := nt hb
      rw [o1, hb]; rfl
    have o2 : x.Left[n]!.okf = true := nf hb
    refine (Pa.ext (x9.trans xa)).oL2 fun b5 l5 c5 S5 => (RJ.ext ((X8.trans x9).trans xa)).oL fun b6 l6 c6 S6 => ?_
    have hl6 := S6.len
    refine S6.idx ring_sz (by omega) (by omega) fun p6 Rp6 => Rp6.oL1 fun b8 l8 c8 S8 => ?_
    have f5 : x.Right[n]!.Samples.length = l5 := S5.len
    have f8 : x.Left[n]!.Samples.length = l8 := S8.len
    refine br (fun hb => no ((X8.trans x9).trans xa) ?_) fun hb => ?_
    · have hb' : (l5 : Int) ≠ (l8 : Int) := by simpa using hb
      have : (l5 == l8) = false := by rw [beq_eq_false_iff_ne]; omega
      rw [o1, o2, f5, f8, this]; rfl
    · have hb' : (l5 : Int) = (l8 : Int) := by simpa using hb
      refine ⟨⟨n + 1, by rw [wrap64_succ (by omega)], by omega, (X8.trans x9).trans xa, fun i hi => ?_⟩, by rw [wrap64_succ (by omega)]; show _ < _; simp; omega⟩
      by_cases e : i = n
      · subst e
        have : (l5 == l8) = true := by rw [beq_iff_eq]; omega
        rw [o1, o2, f5, f8, this]; rfl
      · exact hz i (by omega)
  have hz' : ∀ i, i < x.n → x.Right[i]!.okf = true ∧ x.Left[i]!.okf = true ∧ (x.Right[i]!.Samples.length == x.Left[i]!.Samples.length) = true := fun i hi => by
    have := hz i (by omega)
    rw [Bool.and_eq_true, Bool.and_eq_true] at this
    exact this
  have h4 : x.Right.all GRing.okf = true := by rw [all_range GRing.okf x.Right]; exact all_true fun i hi => (hz' i hi).1
  have h5' : x.Left.all GRing.okf = true := by rw [all_range GRing.okf x.Left]; exact all_true fun i hi => (hz' i (by omega)).2.1
  have h6' : ((List.range x.n).all fun i => x.Right[i]!.Samples.length == x.Left[i]!.Samples.length) = true := all_true fun i hi => (hz' i hi).2.2
  refine (RJ.ext X).oL fun b9 l9 c9 S9 => goX (ContainsFunc_f32_c S9 pipe_tells) fun hf xf => as_b ⟨?_, (X6.trans X).trans xf⟩
  rw [any_not, pipe_ok, h1', h2', h3', h4, h5', h6', Bool.and_assoc _ x.End.ok, hE, Bool.and_assoc _ (fin x.Rest), Bool.and_assoc _ (fin x.Loss), ← Bool.and_assoc (fin x.Loss), hF]; simp
end
end Go.Sx
