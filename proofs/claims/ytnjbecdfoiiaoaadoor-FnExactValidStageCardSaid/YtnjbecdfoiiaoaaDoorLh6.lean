/- The laws' helpers over stages: what they compute. -/
import Derived.Test.YtnjbecdfoiiaoaaDoorLh4
import Derived.Test.YtnjbecdfoiiaoaaDoorLr8
import Derived.Test.YtnjbecdfoiiaoaaDoorValidStage
import Derived.Test.YtnjbecdfoiiaoaaDoorLh0
import Derived.Test.YtnjbecdfoiiaoaaDoorTab
set_option linter.unusedVariables false
set_option linter.unusedSimpArgs false
namespace Go.Sx
open Go.Proofs
set_option maxRecDepth 100000

section
variable {h : Heap}
theorem eq_Stage_c {ca cb : Array Value} {x : GStage} (Ra : rStage.rd h ca.toList x) (Rb : rStage.rd h cb.toList x) : CALL prg f_laws_eqStage #[.agg ca, .agg cb] (fun u h' => u = .bool true ∧ Ext h h') h := by
  refine laws_eqStage.call (alcR Ra fun g1 h1 x1 A => alcR (rStage.ext x1 Rb) fun g2 h2 x2 B => ?_)
  have A := A.ext x2
  have X := x1.trans x2
  refine A.lda2 foc_Stage_Score rfl fun c1 R1 => B.lda2 foc_Stage_Score rfl fun c2 R2 => goX (eq_Score_c R1 R2) fun h' x' => as_b (br_f rfl ?_)
  have A := A.ext x'
  have B := B.ext x'
  have X := X.trans x'
  refine A.oI2 (B.oI2 (br_f (by simp) ?_))
  refine A.oI2 (B.oI2 (br_f (by simp) ?_))
  refine A.oI2 (B.oI2 (br_f (by simp) ?_))
  exact ⟨rfl, X⟩
def w_Stage (x : GStage) : Nat := w_Score x.Score
theorem sz_Stage_c {cs : Array Value} {x : GStage} (R0 : rStage.rd h cs.toList x) (left : Nat) (hl : left ≤ 1048576) : CALL prg f_laws_szStage #[.agg cs, .int .i64 (left : Int)] (fun u h' => u = .int .i64 (subW left (w_Stage x)) ∧ Ext h h') h := by
  have hw : w_Stage x = w_Score x.Score := rfl
  refine laws_szStage.call (alcR R0 fun g1 h1 X R => ?_)
  refine R.lda2 foc_Stage_Score rfl fun c1 R1 => goX (sz_Score_c R1 (left) (by omega)) fun h' x' => as_i (sz_bif (fun hc => ⟨by rw [subW_neg (by omega)], X.trans x'⟩) fun hc => ?_)
  rw [subW_pos hc]
  have R := R.ext x'
  have X := X.trans x'
  exact ⟨by rw [subW_pos (by omega)]; congr 2 <;> omega, X⟩
theorem to_Stage_c {cs : Array Value} {x : GStage} (R0 : rStage.rd h cs.toList x) (hw0 : w_Stage x ≤ 1048576) : CALL prg f_laws_toStage #[.agg cs] (fun u h' => NewR rStage h h' u x) h := by
  have hw : w_Stage x = w_Score x.Score := rfl
  refine laws_toStage.call ((Mem.start h).alc fun g1 h1 x1 M => M.alc fun g2 h2 x2 M => M.alc fun g3 h3 x3 M => ?_)
  have P : Pt rStage h h3 ⟨g3, 0, none⟩ ⟨g3, T_impl_Stage, [], []⟩ [(g2, T_impl_Stage, ⟨Z_impl_Stage⟩), (g1, T_laws_Stage, cs)] z_Stage := Pt.new (r := rStage) zow_Stage M
  have R : RdP rStage _ ⟨g1, 0, none⟩ x := P.mem.rdp (.there .here) (rStage.ext P.ext R0)
  refine R.lda2 foc_Stage_Score rfl fun c1 R1 => NewR.pt P (to_Score_c R1 (by omega)) fun h' c2 B P O ho => as_a (P.stsg foc_Stage_Score rfl O fun h' P => ?_)
  have R : RdP rStage _ ⟨g1, 0, none⟩ x := P.mem.rdp (.there .here) (rStage.ext P.ext R0)
  refine R.oI2 (P.stI2 fun h' P => ?_)
  have R : RdP rStage _ ⟨g1, 0, none⟩ x := P.mem.rdp (.there .here) (rStage.ext P.ext R0)
  refine R.oI2 (P.stI2 fun h' P => ?_)
  have R : RdP rStage _ ⟨g1, 0, none⟩ x := P.mem.rdp (.there .here) (rStage.ext P.ext R0)
  refine R.oI2 (P.stI2 fun h' P => ?_)
  obtain ⟨c', B, M, O⟩ := P.out
  refine M.lda0 .here (osz O rfl) ?_
  have M := M.cnt (W := (g2, T_impl_Stage, ⟨Z_impl_Stage⟩) :: B) (fun p => by simp only [cnt_app, cnt_cons, cnt_nil] at *; omega)
  refine M.sta0 .here (osz O rfl) (rStage.oone O) rfl .here fun h3 M => M.lda0 .here (osz O rfl) ?_
  exact ⟨_, B, rfl, O, M.drop⟩
end
end Go.Sx
/- What the laws have in common: values marked and compared among others. -/
set_option linter.unusedVariables false
set_option linter.unusedSimpArgs false
namespace Go.Sx
open Go.Proofs
set_option maxRecDepth 100000

theorem PairR.go {α : Type} {r : Rep α} {P : Program} {f : FuncId} {args : Array Value} {a : α} {code : Int} {hb h : Heap} {L : List Blk} {K : Value → Heap → Prop} (M : Mem hb h L) (c : CALL P f args (fun u h' => PairR r h h' u a code) h)
    (H : ∀ h' cs B, Mem hb h' (B ++ L) → r.ow B cs.toList a → cs.size = r.sz → K (.tuple ⟨[.agg cs, .int .i64 code]⟩) h') : CALL P f args K h :=
  c.mono fun u h' ⟨cs, B, e, O, N⟩ => by subst e; exact H h' cs B (M.join N) O (by simpa using r.olen O)
end Go.Sx
/- What functions of this seat's program compute, told in words (a predicate over heaps for each), and the proofs that the words are no more than the code's own weakest precondition. -/
namespace Go.Sx
open Go.Proofs
set_option linter.unusedVariables false
set_option maxRecDepth 100000

def impl_isVoices.S (n_0 : Int) (Post : Value → Heap → Prop) (h : Heap) : Prop :=
    CALL prg f_impl_within #[.int .i64 n_0, .int .i64 (1 : Int), .int .i64 (6 : Int)] (fun q1 h2 =>
    asB q1 fun b3 =>
    Post (.bool b3) h2) h
noncomputable def impl_isVoices.code : Code := (Tryd.f13.body).getD .skip
theorem impl_isVoices.call {n_0 : Int} {Post : Value → Heap → Prop} {h : Heap} (H : impl_isVoices.S n_0 Post h) : CALL prg f_impl_isVoices #[.int .i64 n_0] Post h :=
  fn_call tau_ok mixed (c := impl_isVoices.code) (Λ := lookL []) Tryd.func13 (by kernel_rfl) (by kernel_rfl)
    (Rq.free (by kernel_rfl))
    (Eq.mp (by kernel_rfl) H)

end Go.Sx
