/- What the laws have in common: values marked and compared among others. -/
import Derived.Test.YtnjbecdfoiiaoaaGreatDoorLh0
import Derived.Test.YtnjbecdfoiiaoaaGreatDoorTab
import Derived.Test.YtnjbecdfoiiaoaaGreatDoorLk36
import Derived.Test.YtnjbecdfoiiaoaaGreatDoorLh4
import Derived.Test.YtnjbecdfoiiaoaaGreatDoorLp7
import Derived.Test.YtnjbecdfoiiaoaaGreatDoorLk3
import Derived.Test.YtnjbecdfoiiaoaaGreatDoorLr4
import Derived.Test.YtnjbecdfoiiaoaaGreatDoorLr7
set_option linter.unusedVariables false
set_option linter.unusedSimpArgs false
namespace Go.Sx
open Go.Proofs
set_option maxRecDepth 100000

theorem PairR.go {α : Type} {r : Rep α} {P : Program} {f : FuncId} {args : Array Value} {a : α} {code : Int} {hb h : Heap} {L : List Blk} {K : Value → Heap → Prop} (M : Mem hb h L) (c : CALL P f args (fun u h' => PairR r h h' u a code) h)
    (H : ∀ h' cs B, Mem hb h' (B ++ L) → r.ow B cs.toList a → cs.size = r.sz → K (.tuple ⟨[.agg cs, .int .i64 code]⟩) h') : CALL P f args K h :=
  c.mono fun u h' ⟨cs, B, e, O, N⟩ => by subst e; exact H h' cs B (M.join N) O (by simpa using r.olen O)
end Go.Sx
/- What functions of this seat's program compute, told in words (a predicate over heaps for each), and the proofs that the words are no more than the code's own weakest precondition. -/
namespace Go.Sx
open Go.Proofs
set_option linter.unusedVariables false
set_option maxRecDepth 100000

def spec_ValidPlayer.S (p_0 : Array Value) (Post : Value → Heap → Prop) (h : Heap) : Prop :=
    ALC p_0 T_impl_Player (fun g1 h2 =>
    CALL prg f_spec_l09Ok #[.pointer (some ⟨g1, 0, none⟩)] (fun q3 h4 =>
    asB q3 fun b5 =>
    Post (.bool b5) h4) h2) h
noncomputable def spec_ValidPlayer.code : Code := (Tryz.f29.body).getD .skip
theorem spec_ValidPlayer.call {p_0 : Array Value} {Post : Value → Heap → Prop} {h : Heap} (H : spec_ValidPlayer.S p_0 Post h) : CALL prg f_spec_ValidPlayer #[.agg p_0] Post h :=
  fn_call tau_ok mixed (c := spec_ValidPlayer.code) (Λ := lookL []) Tryz.func29 (by kernel_rfl) (by kernel_rfl)
    (Rq.free (by kernel_rfl))
    (Eq.mp (by kernel_rfl) H)

def laws_FnExactValidPlayer.S (aP_0 : Array Value) (Post : Value → Heap → Prop) (h : Heap) : Prop :=
    ALC aP_0 T_laws_Player (fun g1 h2 =>
    LDA 10 h2 ⟨g1, 0, none⟩ fun a3 =>
    CALL prg f_laws_szPlayer #[.agg a3, .int .i64 (1048576 : Int)] (fun q4 h5 =>
    asI .i64 q4 fun n6 =>
    BIF ((decide (n6 < (0 : Int)))) (
    Post (.bool true) h5) (
    LDA 10 h5 ⟨g1, 0, none⟩ fun a7 =>
    CALL prg f_laws_toPlayer #[.agg a7] (fun q8 h9 =>
    asA q8 fun a10 =>
    CALL prg f_spec_ValidPlayer #[.agg a10] (fun q11 h12 =>
    asB q11 fun b13 =>
    LDA 10 h12 ⟨g1, 0, none⟩ fun a14 =>
    CALL prg f_laws_toPlayer #[.agg a14] (fun q15 h16 =>
    asA q15 fun a17 =>
    ALC ⟨Z_impl_Player⟩ T_impl_Player (fun g18 h19 =>
    STA 10 h19 ⟨g18, 0, none⟩ a17 fun h20 =>
    LDA 10 h20 ⟨g18, 0, none⟩ fun a21 =>
    CALL prg f_impl_ValidPlayer #[.agg a21] (fun q22 h23 =>
    asB q22 fun b24 =>
    BIF (!(b24 == b13)) (
    Post (.bool false) h23) (
    LDA 10 h23 ⟨g18, 0, none⟩ fun a25 =>
    LDA 10 h23 ⟨g1, 0, none⟩ fun a26 =>
    CALL prg f_laws_toPlayer #[.agg a26] (fun q27 h28 =>
    asA q27 fun a29 =>
    PIN h23 ⟨g18, 0, none⟩ 10 h28 <|
    CALL prg f_laws_eqPlayer #[.agg a25, .agg a29] (fun q30 h31 =>
    asB q30 fun b32 =>
    BIF (!b32) (
    Post (.bool false) h31) (
    Post (.bool true) h31)) h28) h23)) h20) h16) h12) h9) h5)) h2) h
noncomputable def laws_FnExactValidPlayer.code : Code := (Tryz.f6.body).getD .skip
theorem laws_FnExactValidPlayer.call {aP_0 : Array Value} {Post : Value → Heap → Prop} {h : Heap} (H : laws_FnExactValidPlayer.S aP_0 Post h) : CALL prg f_laws_FnExactValidPlayer #[.agg aP_0] Post h :=
  fn_call tau_ok mixed (c := laws_FnExactValidPlayer.code) (Λ := lookL []) Tryz.func6 (by kernel_rfl) (by kernel_rfl)
    (Rq.free (by kernel_rfl))
    (Eq.mp (by kernel_rfl) H)

end Go.Sx
/- The laws FnExactValidVoice and FnExactValidPlayer, as the program tells them. -/
set_option linter.unusedVariables false
set_option linter.unusedSimpArgs false
namespace Go.Sx
open Go.Proofs
set_option maxRecDepth 100000
set_option maxHeartbeats 1000000

section
variable {h : Heap}
theorem spec_ValidPlayer_c {cs : Array Value} {p : GPlayer} (R0 : rPlayer.rd h cs.toList p) : CALL prg f_spec_ValidPlayer #[.agg cs] (fun u h' => u = .bool p.ok ∧ Ext h h') h :=
  spec_ValidPlayer.call (alcR R0 fun g h1 x1 R => goE x1 (l09Ok_c R) fun h2 x2 => as_b ⟨rfl, x2⟩)
theorem FnExactValidPlayer_c {ca : Array Value} {x : GPlayer} (Ra : rPlayer.rd h ca.toList x) : CALL prg f_laws_FnExactValidPlayer #[.agg ca] (fun u h' => u = .bool true ∧ Ext h h') h := by
  refine laws_FnExactValidPlayer.call ((Mem.start h).alc fun g1 h1 x1 M => M.lda0 .here (rsz Ra rfl) (goM M (sz_Player_c (rPlayer.ext M.ext Ra) 1048576 (by omega) : CALL prg f_laws_szPlayer #[.agg ca, .int .i64 (1048576 : Int)] _ _) fun h3 M => as_i (sz_bif (fun hc => ⟨rfl, M.ext⟩) fun hw => ?_)))
  have rd : ∀ {hh : Heap} {W B : List Blk} {c : Array Value} {z : GPlayer}, Mem h hh W → rPlayer.ow B c.toList z → (∀ p, Sx.cnt p B ≤ Sx.cnt p W) → rPlayer.rd hh c.toList z := fun M O k => rPlayer.look O (M.cnt k) (List.Sublist.refl _)
  refine M.lda0 .here (rsz Ra rfl) (NewR.go M (to_Player_c (rPlayer.ext M.ext Ra) hw) fun h6 c6 B6 M O6 s6 => as_a (goM M (spec_ValidPlayer_c (rd M O6 (fun p => by simp only [cnt_app, cnt_cons, cnt_nil] at *; omega))) fun h7 M => as_b ?_))
  have M : Mem h h7 [(g1, T_laws_Player, ca)] := M.cnt (fun p => by simp only [cnt_app, cnt_cons, cnt_nil] at *; omega)
  clear O6
  refine M.lda0 .here (rsz Ra rfl) (NewR.go M (to_Player_c (rPlayer.ext M.ext Ra) hw) fun h8 cx Bx M Ox sx => as_a (M.alc fun gx h9 x9 M => M.sta0 .here sx (rPlayer.oone Ox) rfl .here fun h10 M => ?_))
  refine M.lda0 .here sx (goM M (ValidPlayer_c (rd M Ox (fun p => by simp only [cnt_app, cnt_cons, cnt_nil] at *; omega))) fun h14 M => as_b (br_f (by simp) ?_))
  have R7 : rPlayer.rd h14 cx.toList x := rd M Ox (fun p => by simp only [cnt_app, cnt_cons, cnt_nil] at *; omega)
  have P7 : RdP rPlayer h14 ⟨gx, 0, none⟩ x := M.rdp .here R7
  refine M.lda0 .here sx (M.lda0 (.there (Look.skip .here)) (rsz Ra rfl) (NewR.go (Mem.start h14) (to_Player_c (rPlayer.ext M.ext Ra) hw) fun h15 c15 B15 N O15 s15 => as_a (P7.pin rfl N.ext ?_)))
  have M := M.join N
  exact goM M (eq_Player_c (rd M Ox (fun p => by simp only [cnt_app, cnt_cons, cnt_nil] at *; omega)) (rd M O15 (fun p => by simp only [cnt_app, cnt_cons, cnt_nil] at *; omega))) fun h16 M => as_b (br_f rfl ⟨rfl, M.ext⟩)
end
end Go.Sx
/- Given Ring, Filter opened. -/
set_option linter.unusedVariables false
set_option linter.unusedSimpArgs false
namespace Go.Sx
open Go.Proofs
set_option maxRecDepth 100000
theorem opens_Ring : Opens prg rRing (([T_sl_float32] ++ ([T_int64]))) := opens_via (fun p => ⟨p.1, p.2⟩) (fun _ => rfl) (opens_seq (opens_sl (n := 9) (U_sl_float32) (by kernel_rfl) (by kernel_rfl) (opens_float U_float32)) ((opens_int U_int64)))
theorem opens_Filter : Opens prg rFilter (([T_int64] ++ (((List.replicate 3 [T_float32]).flatten) ++ (((List.replicate 2 [T_float32]).flatten))))) := opens_via (fun p => ⟨p.1, p.2.1, p.2.2⟩) (fun _ => rfl) (opens_seq (opens_int U_int64) (opens_seq (opens_arr 3 (opens_float U_float32)) ((opens_arr 2 (opens_float U_float32)))))
end Go.Sx
/- Given Pipe opened. -/
set_option linter.unusedVariables false
set_option linter.unusedSimpArgs false
namespace Go.Sx
open Go.Proofs
set_option maxRecDepth 100000
theorem opens_Pipe : Opens prg rPipe (([T_sl_laws_Ring] ++ ([T_sl_laws_Ring] ++ ([T_sl_float32] ++ (([T_int64] ++ (((List.replicate 3 [T_float32]).flatten) ++ (((List.replicate 2 [T_float32]).flatten)))) ++ ([T_bool] ++ ([T_float32] ++ ([T_float32] ++ ([T_float32]))))))))) := opens_via (fun p => ⟨p.1, p.2.1, p.2.2.1, p.2.2.2.1, p.2.2.2.2.1, p.2.2.2.2.2.1, p.2.2.2.2.2.2.1, p.2.2.2.2.2.2.2⟩) (fun _ => rfl) (opens_seq (opens_sl (n := 9) (U_sl_laws_Ring) (by kernel_rfl) (by kernel_rfl) opens_Ring) (opens_seq (opens_sl (n := 9) (U_sl_laws_Ring) (by kernel_rfl) (by kernel_rfl) opens_Ring) (opens_seq (opens_sl (n := 9) (U_sl_float32) (by kernel_rfl) (by kernel_rfl) (opens_float U_float32)) (opens_seq opens_Filter (opens_seq (opens_bool U_bool) (opens_seq (opens_float U_float32) (opens_seq (opens_float U_float32) ((opens_float U_float32)))))))))
end Go.Sx
/- Given String, Bow opened. -/
set_option linter.unusedVariables false
set_option linter.unusedSimpArgs false
namespace Go.Sx
open Go.Proofs
set_option maxRecDepth 100000
theorem opens_String : Opens prg rString ((([T_sl_float32] ++ ([T_int64])) ++ (([T_int64] ++ (((List.replicate 3 [T_float32]).flatten) ++ (((List.replicate 2 [T_float32]).flatten)))) ++ (([T_int64] ++ (((List.replicate 3 [T_float32]).flatten) ++ (((List.replicate 2 [T_float32]).flatten)))) ++ ([T_float32]))))) := opens_via (fun p => ⟨p.1, p.2.1, p.2.2.1, p.2.2.2⟩) (fun _ => rfl) (opens_seq opens_Ring (opens_seq opens_Filter (opens_seq opens_Filter ((opens_float U_float32)))))
theorem opens_Bow : Opens prg rBow ((([T_sl_float32] ++ ([T_int64])) ++ (([T_sl_float32] ++ ([T_int64])) ++ (([T_int64] ++ (((List.replicate 3 [T_float32]).flatten) ++ (((List.replicate 2 [T_float32]).flatten)))) ++ ([T_float32] ++ ([T_float32])))))) := opens_via (fun p => ⟨p.1, p.2.1, p.2.2.1, p.2.2.2.1, p.2.2.2.2⟩) (fun _ => rfl) (opens_seq opens_Ring (opens_seq opens_Ring (opens_seq opens_Filter (opens_seq (opens_float U_float32) ((opens_float U_float32))))))
end Go.Sx
/- Given Tuning, Instrument, Event, Score opened. -/
set_option linter.unusedVariables false
set_option linter.unusedSimpArgs false
namespace Go.Sx
open Go.Proofs
set_option maxRecDepth 100000
theorem opens_Tuning : Opens prg rTuning (([T_float32] ++ ([T_float32] ++ ([T_sl_float32])))) := opens_via (fun p => ⟨p.1, p.2.1, p.2.2⟩) (fun _ => rfl) (opens_seq (opens_float U_float32) (opens_seq (opens_float U_float32) ((opens_sl (n := 9) (U_sl_float32) (by kernel_rfl) (by kernel_rfl) (opens_float U_float32)))))
theorem opens_Instrument : Opens prg rInstrument (([T_string] ++ ([T_int64] ++ ([T_float32] ++ ([T_float32] ++ ([T_float32])))))) := opens_via (fun p => ⟨p.1, p.2.1, p.2.2.1, p.2.2.2.1, p.2.2.2.2⟩) (fun _ => rfl) (opens_seq (opens_str U_string) (opens_seq (opens_int U_int64) (opens_seq (opens_float U_float32) (opens_seq (opens_float U_float32) ((opens_float U_float32))))))
theorem opens_Event : Opens prg rEvent (([T_int64] ++ ([T_int64] ++ ([T_int64] ++ ([T_int64] ++ ([T_int64] ++ ([T_float32]))))))) := opens_via (fun p => ⟨p.1, p.2.1, p.2.2.1, p.2.2.2.1, p.2.2.2.2.1, p.2.2.2.2.2⟩) (fun _ => rfl) (opens_seq (opens_int U_int64) (opens_seq (opens_int U_int64) (opens_seq (opens_int U_int64) (opens_seq (opens_int U_int64) (opens_seq (opens_int U_int64) ((opens_float U_float32)))))))
theorem opens_Score : Opens prg rScore (([T_float32] ++ (([T_float32] ++ ([T_float32] ++ ([T_sl_float32]))) ++ ([T_sl_laws_Instrument] ++ ([T_sl_laws_Event]))))) := opens_via (fun p => ⟨p.1, p.2.1, p.2.2.1, p.2.2.2⟩) (fun _ => rfl) (opens_seq (opens_float U_float32) (opens_seq opens_Tuning (opens_seq (opens_sl (n := 9) (U_sl_laws_Instrument) (by kernel_rfl) (by kernel_rfl) opens_Instrument) ((opens_sl (n := 9) (U_sl_laws_Event) (by kernel_rfl) (by kernel_rfl) opens_Event)))))
end Go.Sx
/- Given Voice, Player opened. -/
set_option linter.unusedVariables false
set_option linter.unusedSimpArgs false
namespace Go.Sx
open Go.Proofs
set_option maxRecDepth 100000
theorem opens_Voice : Opens prg rVoice (([T_int64] ++ ([T_int64] ++ ([T_int64] ++ ([T_bool] ++ ([T_float32] ++ ((([T_sl_float32] ++ ([T_int64])) ++ (([T_int64] ++ (((List.replicate 3 [T_float32]).flatten) ++ (((List.replicate 2 [T_float32]).flatten)))) ++ (([T_int64] ++ (((List.replicate 3 [T_float32]).flatten) ++ (((List.replicate 2 [T_float32]).flatten)))) ++ ([T_float32])))) ++ (([T_sl_laws_Ring] ++ ([T_sl_laws_Ring] ++ ([T_sl_float32] ++ (([T_int64] ++ (((List.replicate 3 [T_float32]).flatten) ++ (((List.replicate 2 [T_float32]).flatten)))) ++ ([T_bool] ++ ([T_float32] ++ ([T_float32] ++ ([T_float32])))))))) ++ ((([T_sl_float32] ++ ([T_int64])) ++ (([T_sl_float32] ++ ([T_int64])) ++ (([T_int64] ++ (((List.replicate 3 [T_float32]).flatten) ++ (((List.replicate 2 [T_float32]).flatten)))) ++ ([T_float32] ++ ([T_float32])))))))))))))) := opens_via (fun p => ⟨p.1, p.2.1, p.2.2.1, p.2.2.2.1, p.2.2.2.2.1, p.2.2.2.2.2.1, p.2.2.2.2.2.2.1, p.2.2.2.2.2.2.2⟩) (fun _ => rfl) (opens_seq (opens_int U_int64) (opens_seq (opens_int U_int64) (opens_seq (opens_int U_int64) (opens_seq (opens_bool U_bool) (opens_seq (opens_float U_float32) (opens_seq opens_String (opens_seq opens_Pipe (opens_Bow))))))))
theorem opens_Player : Opens prg rPlayer ((([T_float32] ++ (([T_float32] ++ ([T_float32] ++ ([T_sl_float32]))) ++ ([T_sl_laws_Instrument] ++ ([T_sl_laws_Event])))) ++ ([T_sl_laws_Voice] ++ ([T_int64] ++ ([T_int64] ++ ([T_int64])))))) := opens_via (fun p => ⟨p.1, p.2.1, p.2.2.1, p.2.2.2.1, p.2.2.2.2⟩) (fun _ => rfl) (opens_seq opens_Score (opens_seq (opens_sl (n := 9) (U_sl_laws_Voice) (by kernel_rfl) (by kernel_rfl) opens_Voice) (opens_seq (opens_int U_int64) (opens_seq (opens_int U_int64) ((opens_int U_int64))))))
end Go.Sx
