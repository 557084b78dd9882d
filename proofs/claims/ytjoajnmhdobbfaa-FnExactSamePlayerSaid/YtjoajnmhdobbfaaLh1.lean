/- The laws' helpers over rings and filters: what they compute. -/
import Derived.Test.YtjoajnmhdobbfaaLh0
set_option linter.unusedVariables false
set_option linter.unusedSimpArgs false
namespace Go.Sx
open Go.Proofs
set_option maxRecDepth 100000

section
variable {h : Heap}
theorem eq_Ring_c {ca cb : Array Value} {x : GRing} (Ra : rRing.rd h ca.toList x) (Rb : rRing.rd h cb.toList x) : CALL prg f_laws_eqRing #[.agg ca, .agg cb] (fun u h' => u = .bool true ∧ Ext h h') h := by
  refine laws_eqRing.call (alcR Ra fun g1 h1 x1 A => alcR (rRing.ext x1 Rb) fun g2 h2 x2 B => ?_)
  have A := A.ext x2
  have X := x1.trans x2
  refine A.oL2 fun b1 l1 c1 S1 => B.oL2 fun b2 l2 c2 S2 => goX (eq_Float32S_c S1 S2) fun h' x' => as_b (br_f rfl ?_)
  have A := A.ext x'
  have B := B.ext x'
  have X := X.trans x'
  refine A.oI2 (B.oI2 (br_f (by simp) ?_))
  exact ⟨rfl, X⟩
def w_Ring (x : GRing) : Nat := w_Float32S x.Samples
theorem sz_Ring_c {cs : Array Value} {x : GRing} (R0 : rRing.rd h cs.toList x) (left : Nat) (hl : left ≤ 1048576) : CALL prg f_laws_szRing #[.agg cs, .int .i64 (left : Int)] (fun u h' => u = .int .i64 (subW left (w_Ring x)) ∧ Ext h h') h := by
  have hw : w_Ring x = w_Float32S x.Samples := rfl
  refine laws_szRing.call (alcR R0 fun g1 h1 X R => ?_)
  refine R.oL2 fun b1 l1 c1 S1 => goX (sz_Float32S_c S1 (left) (by omega)) fun h' x' => as_i (sz_bif (fun hc => ⟨by rw [subW_neg (by omega)], X.trans x'⟩) fun hc => ?_)
  rw [subW_pos hc]
  have R := R.ext x'
  have X := X.trans x'
  exact ⟨by rw [subW_pos (by omega)]; congr 2 <;> omega, X⟩
theorem to_Ring_c {cs : Array Value} {x : GRing} (R0 : rRing.rd h cs.toList x) (hw0 : w_Ring x ≤ 1048576) : CALL prg f_laws_toRing #[.agg cs] (fun u h' => NewR rRing h h' u x) h := by
  have hw : w_Ring x = w_Float32S x.Samples := rfl
  refine laws_toRing.call ((Mem.start h).alc fun g1 h1 x1 M => M.alc fun g2 h2 x2 M => M.alc fun g3 h3 x3 M => ?_)
  have P : Pt rRing h h3 ⟨g3, 0, none⟩ ⟨g3, T_impl_Ring, [], []⟩ [(g2, T_impl_Ring, ⟨Z_impl_Ring⟩), (g1, T_laws_Ring, cs)] z_Ring := Pt.new (r := rRing) zow_Ring M
  have R : RdP rRing _ ⟨g1, 0, none⟩ x := P.mem.rdp (.there .here) (rRing.ext P.ext R0)
  refine R.oL2 fun b l c S => (to_Float32S_c S (by have := S.len; omega)).mono ?_
  rintro _ h' ⟨b', c', B, rfl, O, N⟩
  refine as_l ((P.join N).stLg O fun h' P => ?_)
  have R : RdP rRing _ ⟨g1, 0, none⟩ x := P.mem.rdp (.there .here) (rRing.ext P.ext R0)
  refine R.oI2 (P.stI2 fun h' P => ?_)
  obtain ⟨c', B, M, O⟩ := P.out
  refine M.lda0 .here (osz O rfl) ?_
  have M := M.cnt (W := (g2, T_impl_Ring, ⟨Z_impl_Ring⟩) :: B) (fun p => by simp only [cnt_app, cnt_cons, cnt_nil] at *; omega)
  refine M.sta0 .here (osz O rfl) (rRing.oone O) rfl .here fun h3 M => M.lda0 .here (osz O rfl) ?_
  exact ⟨_, B, rfl, O, M.drop⟩
theorem eq_Filter_c {ca cb : Array Value} {x : GFilter} (Ra : rFilter.rd h ca.toList x) (Rb : rFilter.rd h cb.toList x) : CALL prg f_laws_eqFilter #[.agg ca, .agg cb] (fun u h' => u = .bool true ∧ Ext h h') h := by
  refine laws_eqFilter.call (alcR Ra fun g1 h1 x1 A => alcR (rFilter.ext x1 Rb) fun g2 h2 x2 B => ?_)
  have A := A.ext x2
  have X := x1.trans x2
  refine A.oI2 (B.oI2 (br_f (by simp) ?_))
  refine A.lda2 foc_Filter_C rfl fun c1 R1 => B.lda2 foc_Filter_C rfl fun c2 R2 => goX (eq_Float32A3_c R1 R2) fun h' x' => as_b (br_f rfl ?_)
  have A := A.ext x'
  have B := B.ext x'
  have X := X.trans x'
  refine A.lda2 foc_Filter_S rfl fun c1 R1 => B.lda2 foc_Filter_S rfl fun c2 R2 => goX (eq_Float32A2_c R1 R2) fun h' x' => as_b (br_f rfl ?_)
  have A := A.ext x'
  have B := B.ext x'
  have X := X.trans x'
  exact ⟨rfl, X⟩
theorem to_Filter_c {cs : Array Value} {x : GFilter} (R0 : rFilter.rd h cs.toList x) : CALL prg f_laws_toFilter #[.agg cs] (fun u h' => NewR rFilter h h' u x) h := by
  refine laws_toFilter.call ((Mem.start h).alc fun g1 h1 x1 M => M.alc fun g2 h2 x2 M => M.alc fun g3 h3 x3 M => ?_)
  have P : Pt rFilter h h3 ⟨g3, 0, none⟩ ⟨g3, T_impl_Filter, [], []⟩ [(g2, T_impl_Filter, ⟨Z_impl_Filter⟩), (g1, T_laws_Filter, cs)] z_Filter := Pt.new (r := rFilter) zow_Filter M
  have R : RdP rFilter _ ⟨g1, 0, none⟩ x := P.mem.rdp (.there .here) (rFilter.ext P.ext R0)
  refine R.oI2 (P.stI2 fun h' P => ?_)
  have R : RdP rFilter _ ⟨g1, 0, none⟩ x := P.mem.rdp (.there .here) (rFilter.ext P.ext R0)
  refine R.lda2 foc_Filter_C rfl fun c1 R1 => NewR.pt P (to_Float32A3_c R1) fun h' c2 B P O ho => as_a (P.stsg foc_Filter_C rfl O fun h' P => ?_)
  have R : RdP rFilter _ ⟨g1, 0, none⟩ x := P.mem.rdp (.there .here) (rFilter.ext P.ext R0)
  refine R.lda2 foc_Filter_S rfl fun c1 R1 => NewR.pt P (to_Float32A2_c R1) fun h' c2 B P O ho => as_a (P.stsg foc_Filter_S rfl O fun h' P => ?_)
  obtain ⟨c', B, M, O⟩ := P.out
  refine M.lda0 .here (osz O rfl) ?_
  have M := M.cnt (W := (g2, T_impl_Filter, ⟨Z_impl_Filter⟩) :: B) (fun p => by simp only [cnt_app, cnt_cons, cnt_nil] at *; omega)
  refine M.sta0 .here (osz O rfl) (rFilter.oone O) rfl .here fun h3 M => M.lda0 .here (osz O rfl) ?_
  exact ⟨_, B, rfl, O, M.drop⟩
end
end Go.Sx
