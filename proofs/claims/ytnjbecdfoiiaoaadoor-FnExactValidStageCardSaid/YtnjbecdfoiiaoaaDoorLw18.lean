/- The law FnExactValidStage, as the program tells it. -/
import Derived.Test.YtnjbecdfoiiaoaaDoorLk32
import Derived.Test.YtnjbecdfoiiaoaaDoorLh6
import Derived.Test.YtnjbecdfoiiaoaaDoorLr6
import Derived.Test.YtnjbecdfoiiaoaaDoorLr8
set_option linter.unusedVariables false
set_option linter.unusedSimpArgs false
namespace Go.Sx
open Go.Proofs
set_option maxRecDepth 100000
set_option maxHeartbeats 1000000

noncomputable def GStage.ok (s : GStage) : Bool := s.Score.ok && inR s.Voices 1 6 && inR s.Blocks 1 12 && inR s.Workers 1 3
section
variable {h : Heap}
theorem l10Shape_c {q : Addr} {s : GStage} (R : RdP rStage h q s) : CALL prg f_spec_l10Shape #[.pointer (some q)] (fun u h' => u = .bool s.ok ∧ Ext h h') h := by
  have A : ∀ {hh : Heap}, Ext h hh → RdP rStage hh q s := fun e => R.ext e
  refine spec_l10Shape.call (goX (l08Ok_c (R.fst foc_Stage_Score)) fun h1 x1 => as_b (br (fun k1 => ?_) fun k1 => ⟨by rw [GStage.ok, k1]; rfl, x1⟩))
  refine (A x1).oI (goE x1 (l00In_c _ _ _ _) fun h2 x2 => as_b (br (fun k2 => ?_) fun k2 => ⟨by rw [GStage.ok, k2]; simp, x2⟩))
  refine (A x2).oI (goE x2 (l00In_c _ _ _ _) fun h3 x3 => as_b (br (fun k3 => ?_) fun k3 => ⟨by rw [GStage.ok, k3]; simp, x3⟩))
  exact (A x3).oI (goE x3 (l00In_c _ _ _ _) fun h4 x4 => as_b ⟨by rw [GStage.ok, k1, k2, k3]; rfl, x4⟩)
theorem spec_ValidStage_c {cs : Array Value} {s : GStage} (R0 : rStage.rd h cs.toList s) : CALL prg f_spec_ValidStage #[.agg cs] (fun u h' => u = .bool s.ok ∧ Ext h h') h :=
  spec_ValidStage.call (alcR R0 fun g h1 x1 R => goE x1 (l10Shape_c R) fun h2 x2 => as_b ⟨rfl, x2⟩)
theorem ValidStage_c {cs : Array Value} {s : GStage} (R0 : rStage.rd h cs.toList s) : CALL prg f_impl_ValidStage #[.agg cs] (fun u h' => u = .bool s.ok ∧ Ext h h') h := by
  refine impl_ValidStage.call (alcR R0 fun g h0 x0 R => ?_)
  have A : ∀ {hh : Heap}, Ext h0 hh → RdP rStage hh ⟨g, 0, none⟩ s := fun e => R.ext e
  refine R.lda2 foc_Stage_Score rfl fun c1 R1 => goX (ValidScore_c R1) fun h1 x1 => as_b (br (fun k1 => ?_) fun k1 => ⟨by rw [GStage.ok, k1]; rfl, x0.trans x1⟩)
  refine (A x1).oI2 (goE x1 (impl_isVoices.call (goX (within_c _ _ _ _) fun h' x' => as_b ⟨rfl, x'⟩) : CALL prg f_impl_isVoices #[.int .i64 s.Voices] (fun u h' => u = .bool (inR s.Voices 1 6) ∧ Ext h1 h') h1) fun h2 x2 => as_b (br (fun k2 => ?_) fun k2 => ⟨by rw [GStage.ok, k2]; simp, x0.trans x2⟩))
  refine (A x2).oI2 (goE x2 (within_c _ _ _ _) fun h3 x3 => as_b (br (fun k3 => ?_) fun k3 => ⟨by rw [GStage.ok, k3]; simp, x0.trans x3⟩))
  exact (A x3).oI2 (goE x3 (within_c _ _ _ _) fun h4 x4 => as_b ⟨by rw [GStage.ok, k1, k2, k3]; rfl, x0.trans x4⟩)
theorem FnExactValidStage_c {ca : Array Value} {x : GStage} (Ra : rStage.rd h ca.toList x) : CALL prg f_laws_FnExactValidStage #[.agg ca] (fun u h' => u = .bool true ∧ Ext h h') h := by
  refine laws_FnExactValidStage.call ((Mem.start h).alc fun g1 h1 x1 M => M.lda0 .here (rsz Ra rfl) (goM M (sz_Stage_c (rStage.ext M.ext Ra) 1048576 (by omega) : CALL prg f_laws_szStage #[.agg ca, .int .i64 (1048576 : Int)] _ _) fun h3 M => as_i (sz_bif (fun hc => ⟨rfl, M.ext⟩) fun hw => ?_)))
  have rd : ∀ {hh : Heap} {W B : List Blk} {c : Array Value} {z : GStage}, Mem h hh W → rStage.ow B c.toList z → (∀ p, Sx.cnt p B ≤ Sx.cnt p W) → rStage.rd hh c.toList z := fun M O k => rStage.look O (M.cnt k) (List.Sublist.refl _)
  refine M.lda0 .here (rsz Ra rfl) (NewR.go M (to_Stage_c (rStage.ext M.ext Ra) hw) fun h6 c6 B6 M O6 s6 => as_a (goM M (spec_ValidStage_c (rd M O6 (fun p => by simp only [cnt_app, cnt_cons, cnt_nil] at *; omega))) fun h7 M => as_b ?_))
  have M : Mem h h7 [(g1, T_laws_Stage, ca)] := M.cnt (fun p => by simp only [cnt_app, cnt_cons, cnt_nil] at *; omega)
  clear O6
  refine M.lda0 .here (rsz Ra rfl) (NewR.go M (to_Stage_c (rStage.ext M.ext Ra) hw) fun h8 cx Bx M Ox sx => as_a (M.alc fun gx h9 x9 M => M.sta0 .here sx (rStage.oone Ox) rfl .here fun h10 M => ?_))
  refine M.lda0 .here sx (goM M (ValidStage_c (rd M Ox (fun p => by simp only [cnt_app, cnt_cons, cnt_nil] at *; omega))) fun h14 M => as_b (br_f (by simp) ?_))
  have R7 : rStage.rd h14 cx.toList x := rd M Ox (fun p => by simp only [cnt_app, cnt_cons, cnt_nil] at *; omega)
  have P7 : RdP rStage h14 ⟨gx, 0, none⟩ x := M.rdp .here R7
  refine M.lda0 .here sx (M.lda0 (.there (Look.skip .here)) (rsz Ra rfl) (NewR.go (Mem.start h14) (to_Stage_c (rStage.ext M.ext Ra) hw) fun h15 c15 B15 N O15 s15 => as_a (P7.pin rfl N.ext ?_)))
  have M := M.join N
  exact goM M (eq_Stage_c (rd M Ox (fun p => by simp only [cnt_app, cnt_cons, cnt_nil] at *; omega)) (rd M O15 (fun p => by simp only [cnt_app, cnt_cons, cnt_nil] at *; omega))) fun h16 M => as_b (br_f rfl ⟨rfl, M.ext⟩)
end
end Go.Sx
/- Given Tuning, Instrument, Event, Score opened. -/
set_option linter.unusedVariables false
set_option linter.unusedSimpArgs false
namespace Go.Sx
open Go.Proofs
set_option maxRecDepth 100000
theorem opens_Tuning : Opens prg rTuning (([T_float32] ++ ([T_float32] ++ ([T_sl_float32])))) := opens_via (fun p => ⟨p.1, p.2.1, p.2.2⟩) (fun _ => rfl) (opens_seq (opens_float U_float32) (opens_seq (opens_float U_float32) ((opens_sl (n := 9) (U_sl_float32) (by kernel_rfl) (by kernel_rfl) (opens_float U_float32)))))
theorem opens_Instrument : Opens prg rInstrument (([T_string] ++ ([T_int64] ++ ([T_float32] ++ ([T_float32] ++ ([T_float32])))))) := opens_via (fun p => ⟨p.1, p.2.1, p.2.2.1, p.2.2.2.1, p.2.2.2.2⟩) (fun _ => rfl) (opens_seq (opens_str U_string) (opens_seq (opens_int U_int64) (opens_seq (opens_float U_float32) (opens_seq (opens_float U_float32) ((opens_float U_float32))))))
theorem opens_Event : Opens prg rEvent (([T_int64] ++ ([T_int64] ++ ([T_int64] ++ ([T_int64] ++ ([T_int64] ++ ([T_float32]))))))) := opens_via (fun p => ⟨p.1, p.2.1, p.2.2.1, p.2.2.2.1, p.2.2.2.2.1, p.2.2.2.2.2⟩) (fun _ => rfl) (opens_seq (opens_int U_int64) (opens_seq (opens_int U_int64) (opens_seq (opens_int U_int64) (opens_seq (opens_int U_int64) (opens_seq (opens_int U_int64) ((opens_float U_float32)))))))
theorem opens_Score : Opens prg rScore (([T_float32] ++ (([T_float32] ++ ([T_float32] ++ ([T_sl_float32]))) ++ ([T_sl_laws_Instrument] ++ ([T_sl_laws_Event]))))) := opens_via (fun p => ⟨p.1, p.2.1, p.2.2.1, p.2.2.2⟩) (fun _ => rfl) (opens_seq (opens_float U_float32) (opens_seq opens_Tuning (opens_seq (opens_sl (n := 9) (U_sl_laws_Instrument) (by kernel_rfl) (by kernel_rfl) opens_Instrument) ((opens_sl (n := 9) (U_sl_laws_Event) (by kernel_rfl) (by kernel_rfl) opens_Event)))))
end Go.Sx
/- Given Stage opened. -/
set_option linter.unusedVariables false
set_option linter.unusedSimpArgs false
namespace Go.Sx
open Go.Proofs
set_option maxRecDepth 100000
theorem opens_Stage : Opens prg rStage ((([T_float32] ++ (([T_float32] ++ ([T_float32] ++ ([T_sl_float32]))) ++ ([T_sl_laws_Instrument] ++ ([T_sl_laws_Event])))) ++ ([T_int64] ++ ([T_int64] ++ ([T_int64]))))) := opens_via (fun p => ⟨p.1, p.2.1, p.2.2.1, p.2.2.2⟩) (fun _ => rfl) (opens_seq opens_Score (opens_seq (opens_int U_int64) (opens_seq (opens_int U_int64) ((opens_int U_int64)))))
end Go.Sx
