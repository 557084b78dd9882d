/- What the laws have in common: values marked and compared among others. -/
import Derived.Test.YtnjbecdfoiiaoaaGreatDoorLh0
import Derived.Test.YtnjbecdfoiiaoaaGreatDoorTab
import Derived.Test.YtnjbecdfoiiaoaaGreatDoorLk34
import Derived.Test.YtnjbecdfoiiaoaaGreatDoorLh4
import Derived.Test.YtnjbecdfoiiaoaaGreatDoorLp7
import Derived.Test.YtnjbecdfoiiaoaaGreatDoorLk3
import Derived.Test.YtnjbecdfoiiaoaaGreatDoorLr4
import Derived.Test.YtnjbecdfoiiaoaaGreatDoorLr6
import Derived.Test.YtnjbecdfoiiaoaaGreatDoorLr7
set_option linter.unusedVariables false
set_option linter.unusedSimpArgs false
namespace Go.Sx
open Go.Proofs
set_option maxRecDepth 100000

theorem PairR.go {α : Type} {r : Rep α} {P : Program} {f : FuncId} {args : Array Value} {a : α} {code : Int} {hb h : Heap} {L : List Blk} {K : Value → Heap → Prop} (M : Mem hb h L) (c : CALL P f args (fun u h' => PairR r h h' u a code) h)
    (H : ∀ h' cs B, Mem hb h' (B ++ L) → r.ow B cs.toList a → cs.size = r.sz → K (.tuple ⟨[.agg cs, .int .i64 code]⟩) h') : CALL P f args K h :=
  c.mono fun u h' ⟨cs, B, e, O, N⟩ => by subst e; exact H h' cs B (M.join N) O (by simpa using r.olen O)
end Go.Sx
/- What functions of this seat's program compute, told in words (a predicate over heaps for each), and the proofs that the words are no more than the code's own weakest precondition. -/
namespace Go.Sx
open Go.Proofs
set_option linter.unusedVariables false
set_option maxRecDepth 100000

def spec_ValidVoice.S (s_0 : Array Value) (v_1 : Array Value) (Post : Value → Heap → Prop) (h : Heap) : Prop :=
    ALC s_0 T_impl_Score (fun g1 h2 =>
    ALC v_1 T_impl_Voice (fun g3 h4 =>
    CALL prg f_spec_l08Ok #[.pointer (some ⟨g1, 0, none⟩)] (fun q5 h6 =>
    asB q5 fun b7 =>
    BIF b7 (
    CALL prg f_spec_l09Voice #[.pointer (some ⟨g1, 0, none⟩), .pointer (some ⟨g3, 0, none⟩)] (fun q8 h9 =>
    asB q8 fun b10 =>
    Post (.bool b10) h9) h6) (
    Post (.bool false) h6)) h4) h2) h
noncomputable def spec_ValidVoice.code : Code := (Tryz.f22.body).getD .skip
theorem spec_ValidVoice.call {s_0 : Array Value} {v_1 : Array Value} {Post : Value → Heap → Prop} {h : Heap} (H : spec_ValidVoice.S s_0 v_1 Post h) : CALL prg f_spec_ValidVoice #[.agg s_0, .agg v_1] Post h :=
  fn_call tau_ok mixed (c := spec_ValidVoice.code) (Λ := lookL []) Tryz.func22 (by kernel_rfl) (by kernel_rfl)
    (Rq.free (by kernel_rfl))
    (Eq.mp (by kernel_rfl) H)

def impl_ValidVoice.S (s_0 : Array Value) (v_1 : Array Value) (Post : Value → Heap → Prop) (h : Heap) : Prop :=
    ALC s_0 T_impl_Score (fun g1 h2 =>
    ALC v_1 T_impl_Voice (fun g3 h4 =>
    LDA 6 h4 ⟨g1, 0, none⟩ fun a5 =>
    CALL prg f_impl_ValidScore #[.agg a5] (fun q6 h7 =>
    asB q6 fun b8 =>
    BIF b8 (
    LDA 6 h7 ⟨g1, 0, none⟩ fun a9 =>
    LDA 45 h7 ⟨g3, 0, none⟩ fun a10 =>
    CALL prg f_impl_isVoice #[.agg a9, .agg a10] (fun q11 h12 =>
    asB q11 fun b13 =>
    Post (.bool b13) h12) h7) (
    Post (.bool false) h7)) h4) h2) h
noncomputable def impl_ValidVoice.code : Code := (Tryz.f24.body).getD .skip
theorem impl_ValidVoice.call {s_0 : Array Value} {v_1 : Array Value} {Post : Value → Heap → Prop} {h : Heap} (H : impl_ValidVoice.S s_0 v_1 Post h) : CALL prg f_impl_ValidVoice #[.agg s_0, .agg v_1] Post h :=
  fn_call tau_ok mixed (c := impl_ValidVoice.code) (Λ := lookL []) Tryz.func24 (by kernel_rfl) (by kernel_rfl)
    (Rq.free (by kernel_rfl))
    (Eq.mp (by kernel_rfl) H)

def laws_FnExactValidVoice.S (aS_0 : Array Value) (aV_1 : Array Value) (Post : Value → Heap → Prop) (h : Heap) : Prop :=
    ALC aS_0 T_laws_Score (fun g1 h2 =>
    ALC aV_1 T_laws_Voice (fun g3 h4 =>
    LDA 6 h4 ⟨g1, 0, none⟩ fun a5 =>
    CALL prg f_laws_szScore #[.agg a5, .int .i64 (1048576 : Int)] (fun q6 h7 =>
    asI .i64 q6 fun n8 =>
    BIF ((decide (n8 < (0 : Int)))) (
    Post (.bool true) h7) (
    LDA 45 h7 ⟨g3, 0, none⟩ fun a9 =>
    CALL prg f_laws_szVoice #[.agg a9, .int .i64 n8] (fun q10 h11 =>
    asI .i64 q10 fun n12 =>
    BIF ((decide (n12 < (0 : Int)))) (
    Post (.bool true) h11) (
    LDA 6 h11 ⟨g1, 0, none⟩ fun a13 =>
    LDA 45 h11 ⟨g3, 0, none⟩ fun a14 =>
    CALL prg f_laws_toScore #[.agg a13] (fun q15 h16 =>
    asA q15 fun a17 =>
    PIN h11 ⟨g3, 0, none⟩ 45 h16 <|
    CALL prg f_laws_toVoice #[.agg a14] (fun q18 h19 =>
    asA q18 fun a20 =>
    CALL prg f_spec_ValidVoice #[.agg a17, .agg a20] (fun q21 h22 =>
    asB q21 fun b23 =>
    LDA 6 h22 ⟨g1, 0, none⟩ fun a24 =>
    CALL prg f_laws_toScore #[.agg a24] (fun q25 h26 =>
    asA q25 fun a27 =>
    ALC ⟨Z_impl_Score⟩ T_impl_Score (fun g28 h29 =>
    STA 6 h29 ⟨g28, 0, none⟩ a27 fun h30 =>
    LDA 45 h30 ⟨g3, 0, none⟩ fun a31 =>
    CALL prg f_laws_toVoice #[.agg a31] (fun q32 h33 =>
    asA q32 fun a34 =>
    ALC ⟨Z_impl_Voice⟩ T_impl_Voice (fun g35 h36 =>
    STA 45 h36 ⟨g35, 0, none⟩ a34 fun h37 =>
    LDA 6 h37 ⟨g28, 0, none⟩ fun a38 =>
    LDA 45 h37 ⟨g35, 0, none⟩ fun a39 =>
    CALL prg f_impl_ValidVoice #[.agg a38, .agg a39] (fun q40 h41 =>
    asB q40 fun b42 =>
    BIF (!(b42 == b23)) (
    Post (.bool false) h41) (
    LDA 6 h41 ⟨g28, 0, none⟩ fun a43 =>
    LDA 6 h41 ⟨g1, 0, none⟩ fun a44 =>
    CALL prg f_laws_toScore #[.agg a44] (fun q45 h46 =>
    asA q45 fun a47 =>
    PIN h41 ⟨g28, 0, none⟩ 6 h46 <|
    CALL prg f_laws_eqScore #[.agg a43, .agg a47] (fun q48 h49 =>
    asB q48 fun b50 =>
    BIF (!b50) (
    Post (.bool false) h49) (
    LDA 45 h49 ⟨g35, 0, none⟩ fun a51 =>
    LDA 45 h49 ⟨g3, 0, none⟩ fun a52 =>
    CALL prg f_laws_toVoice #[.agg a52] (fun q53 h54 =>
    asA q53 fun a55 =>
    PIN h49 ⟨g35, 0, none⟩ 45 h54 <|
    CALL prg f_laws_eqVoice #[.agg a51, .agg a55] (fun q56 h57 =>
    asB q56 fun b58 =>
    BIF (!b58) (
    Post (.bool false) h57) (
    Post (.bool true) h57)) h54) h49)) h46) h41)) h37) h33) h30) h26) h22) h19) h16) h11)) h7)) h4) h2) h
noncomputable def laws_FnExactValidVoice.code : Code := (Tryz.f4.body).getD .skip
theorem laws_FnExactValidVoice.call {aS_0 : Array Value} {aV_1 : Array Value} {Post : Value → Heap → Prop} {h : Heap} (H : laws_FnExactValidVoice.S aS_0 aV_1 Post h) : CALL prg f_laws_FnExactValidVoice #[.agg aS_0, .agg aV_1] Post h :=
  fn_call tau_ok mixed (c := laws_FnExactValidVoice.code) (Λ := lookL []) Tryz.func4 (by kernel_rfl) (by kernel_rfl)
    (Rq.free (by kernel_rfl))
    (Eq.mp (by kernel_rfl) H)

end Go.Sx
/- The laws FnExactValidVoice and FnExactValidPlayer, as the program tells them. -/
set_option linter.unusedVariables false
set_option linter.unusedSimpArgs false
namespace Go.Sx
open Go.Proofs
set_option maxRecDepth 100000
set_option maxHeartbeats 1000000

section
variable {h : Heap}
theorem spec_ValidVoice_c {cs cv : Array Value} {s : GScore} {v : GVoice} (R0 : rScore.rd h cs.toList s) (V0 : rVoice.rd h cv.toList v) : CALL prg f_spec_ValidVoice #[.agg cs, .agg cv] (fun u h' => u = .bool (s.ok && voiceOk s v) ∧ Ext h h') h :=
  spec_ValidVoice.call (alcR R0 fun g1 h1 x1 R => alcR (rVoice.ext x1 V0) fun g3 h2 x2 V => goX (l08Ok_c (R.ext x2)) fun h3 x3 => as_b (br (fun e => goX (l09Voice_c (R.ext (x2.trans x3)) (V.ext x3) e) fun h4 x4 => as_b ⟨by rw [e]; rfl, x1.trans (x2.trans (x3.trans x4))⟩) fun e => ⟨by rw [e]; rfl, x1.trans (x2.trans x3)⟩))
theorem ValidVoice_c {cs cv : Array Value} {s : GScore} {v : GVoice} (R0 : rScore.rd h cs.toList s) (V0 : rVoice.rd h cv.toList v) : CALL prg f_impl_ValidVoice #[.agg cs, .agg cv] (fun u h' => u = .bool (s.ok && voiceOk s v) ∧ Ext h h') h :=
  impl_ValidVoice.call (alcR R0 fun g1 h1 x1 R => alcR (rVoice.ext x1 V0) fun g3 h2 x2 V => (R.ext x2).lda1 rfl fun c3 R3 => goX (ValidScore_c R3) fun h3 x3 => as_b (br (fun e => (R.ext (x2.trans x3)).lda1 rfl fun c4 R4 => (V.ext x3).lda1 rfl fun c5 V5 => goX (isVoice_c R4 V5 e) fun h4 x4 => as_b ⟨by rw [e]; rfl, x1.trans (x2.trans (x3.trans x4))⟩) fun e => ⟨by rw [e]; rfl, x1.trans (x2.trans x3)⟩))
theorem FnExactValidVoice_c {ca cb : Array Value} {x : GScore} {y : GVoice} (Ra : rScore.rd h ca.toList x) (Rb : rVoice.rd h cb.toList y) : CALL prg f_laws_FnExactValidVoice #[.agg ca, .agg cb] (fun u h' => u = .bool true ∧ Ext h h') h := by
  refine laws_FnExactValidVoice.call ((Mem.start h).alc fun g1 h1 x1 M => M.alc fun g3 h2 x2 M => M.lda0 (.there .here) (rsz Ra rfl) (goM M (sz_Score_c (rScore.ext M.ext Ra) 1048576 (by omega) : CALL prg f_laws_szScore #[.agg ca, .int .i64 (1048576 : Int)] _ _) fun h3 M => as_i (sz_bif (fun hc => ⟨rfl, M.ext⟩) fun hw => ?_)))
  rw [subW_pos hw]
  refine M.lda0 .here (rsz Rb rfl) (goM M (sz_Voice_c (rVoice.ext M.ext Rb) _ (by omega)) fun h4 M => as_i (sz_bif (fun hc => ⟨rfl, M.ext⟩) fun hw2 => ?_))
  have hw2' : w_Voice y ≤ 1048576 := by omega
  have eqs : ∀ {hh : Heap} {W B1 B2 : List Blk} {c1 c2 : Array Value} {z : GScore}, Mem h hh W → rScore.ow B1 c1.toList z → (∀ p, Sx.cnt p B1 ≤ Sx.cnt p W) → rScore.ow B2 c2.toList z → (∀ p, Sx.cnt p B2 ≤ Sx.cnt p W) → CALL prg f_laws_eqScore #[.agg c1, .agg c2] (fun u h' => u = .bool true ∧ Ext hh h') hh :=
    fun M O1 k1 O2 k2 => eq_Score_c (rScore.look O1 (M.cnt k1) (List.Sublist.refl _)) (rScore.look O2 (M.cnt k2) (List.Sublist.refl _))
  have eqv : ∀ {hh : Heap} {W B1 B2 : List Blk} {c1 c2 : Array Value} {z : GVoice}, Mem h hh W → rVoice.ow B1 c1.toList z → (∀ p, Sx.cnt p B1 ≤ Sx.cnt p W) → rVoice.ow B2 c2.toList z → (∀ p, Sx.cnt p B2 ≤ Sx.cnt p W) → CALL prg f_laws_eqVoice #[.agg c1, .agg c2] (fun u h' => u = .bool true ∧ Ext hh h') hh :=
    fun M O1 k1 O2 k2 => eq_Voice_c (rVoice.look O1 (M.cnt k1) (List.Sublist.refl _)) (rVoice.look O2 (M.cnt k2) (List.Sublist.refl _))
  have rd : ∀ {α : Type} (r : Rep α) {hh : Heap} {W B : List Blk} {c : Array Value} {z : α}, Mem h hh W → r.ow B c.toList z → (∀ p, Sx.cnt p B ≤ Sx.cnt p W) → r.rd hh c.toList z := fun r => fun M O k => r.look O (M.cnt k) (List.Sublist.refl _)
  refine M.lda0 (.there .here) (rsz Ra rfl) (M.lda0 .here (rsz Rb rfl) ?_)
  have P3 : RdP rVoice h4 ⟨g3, 0, none⟩ y := M.rdp .here (rVoice.ext M.ext Rb)
  refine (NewR.go (Mem.start h4) (to_Score_c (rScore.ext M.ext Ra) hw) fun h5 c5 B5 N O5 s5 => as_a (P3.pin rfl N.ext ?_))
  have M := M.join N
  refine NewR.go M (to_Voice_c (rVoice.ext M.ext Rb) hw2') fun h6 c6 B6 M O6 s6 => as_a (goM M (spec_ValidVoice_c (rd rScore M O5 (fun p => by simp only [cnt_app, cnt_cons, cnt_nil] at *; omega)) (rd rVoice M O6 (fun p => by simp only [cnt_app, cnt_cons, cnt_nil] at *; omega))) fun h7 M => as_b ?_)
  have M : Mem h h7 [(g3, T_laws_Voice, cb), (g1, T_laws_Score, ca)] := M.cnt (fun p => by simp only [cnt_app, cnt_cons, cnt_nil] at *; omega)
  clear O5 O6 N P3
  refine M.lda0 (.there .here) (rsz Ra rfl) (NewR.go M (to_Score_c (rScore.ext M.ext Ra) hw) fun h8 cx Bx M Ox sx => as_a (M.alc fun gx h9 x9 M => M.sta0 .here sx (rScore.oone Ox) rfl .here fun h10 M => ?_))
  refine M.lda0 (.there (Look.skip .here)) (rsz Rb rfl) (NewR.go M (to_Voice_c (rVoice.ext M.ext Rb) hw2') fun h11 cy By M Oy sy => as_a (M.alc fun gy h12 x12 M => M.sta0 .here sy (rVoice.oone Oy) rfl .here fun h13 M => ?_))
  have M : Mem h h13 ((g3, T_laws_Voice, cb) :: (g1, T_laws_Score, ca) :: (gx, T_impl_Score, cx) :: (gy, T_impl_Voice, cy) :: (Bx ++ (By ++ []))) := M.cnt (fun p => by simp only [List.append_eq, cnt_app, cnt_cons, cnt_nil] at *; omega)
  refine M.lda0 (.there (.there .here)) sx (M.lda0 (.there (.there (.there .here))) sy (goM M (ValidVoice_c (rd rScore M Ox (fun p => by simp only [cnt_app, cnt_cons, cnt_nil] at *; omega)) (rd rVoice M Oy (fun p => by simp only [cnt_app, cnt_cons, cnt_nil] at *; omega))) fun h14 M => as_b (br_f (by simp) ?_)))
  have R7 : rScore.rd h14 cx.toList x := rd rScore M Ox (fun p => by simp only [cnt_app, cnt_cons, cnt_nil] at *; omega)
  have P7 : RdP rScore h14 ⟨gx, 0, none⟩ x := M.rdp (.there (.there .here)) R7
  refine M.lda0 (.there (.there .here)) sx (M.lda0 (.there .here) (rsz Ra rfl) (NewR.go (Mem.start h14) (to_Score_c (rScore.ext M.ext Ra) hw) fun h15 c15 B15 N O15 s15 => as_a (P7.pin rfl N.ext ?_)))
  have M := M.join N
  refine goM M (eqs M Ox (fun p => by simp only [cnt_app, cnt_cons, cnt_nil] at *; omega) O15 (fun p => by simp only [cnt_app, cnt_cons, cnt_nil] at *; omega)) fun h16 M => as_b (br_f rfl ?_)
  have M : Mem h h16 ((g3, T_laws_Voice, cb) :: (g1, T_laws_Score, ca) :: (gx, T_impl_Score, cx) :: (gy, T_impl_Voice, cy) :: (Bx ++ (By ++ []))) := M.cnt (fun p => by simp only [List.append_eq, cnt_app, cnt_cons, cnt_nil] at *; omega)
  clear N O15
  have R8 : rVoice.rd h16 cy.toList y := rd rVoice M Oy (fun p => by simp only [cnt_app, cnt_cons, cnt_nil] at *; omega)
  have P8 : RdP rVoice h16 ⟨gy, 0, none⟩ y := M.rdp (.there (.there (.there .here))) R8
  refine M.lda0 (.there (.there (.there .here))) sy (M.lda0 .here (rsz Rb rfl) (NewR.go (Mem.start h16) (to_Voice_c (rVoice.ext M.ext Rb) hw2') fun h17 c17 B17 N O17 s17 => as_a (P8.pin rfl N.ext ?_)))
  have M := M.join N
  exact goM M (eqv M Oy (fun p => by simp only [cnt_app, cnt_cons, cnt_nil] at *; omega) O17 (fun p => by simp only [cnt_app, cnt_cons, cnt_nil] at *; omega)) fun h18 M => as_b (br_f rfl ⟨rfl, M.ext⟩)
end
end Go.Sx
/- Given Ring, Filter opened. -/
set_option linter.unusedVariables false
set_option linter.unusedSimpArgs false
namespace Go.Sx
open Go.Proofs
set_option maxRecDepth 100000
theorem opens_Ring : Opens prg rRing (([T_sl_float32] ++ ([T_int64]))) := opens_via (fun p => ⟨p.1, p.2⟩) (fun _ => rfl) (opens_seq (opens_sl (n := 9) (U_sl_float32) (by kernel_rfl) (by kernel_rfl) (opens_float U_float32)) ((opens_int U_int64)))
theorem opens_Filter : Opens prg rFilter (([T_int64] ++ (((List.replicate 3 [T_float32]).flatten) ++ (((List.replicate 2 [T_float32]).flatten))))) := opens_via (fun p => ⟨p.1, p.2.1, p.2.2⟩) (fun _ => rfl) (opens_seq (opens_int U_int64) (opens_seq (opens_arr 3 (opens_float U_float32)) ((opens_arr 2 (opens_float U_float32)))))
end Go.Sx
/- Given Pipe opened. -/
set_option linter.unusedVariables false
set_option linter.unusedSimpArgs false
namespace Go.Sx
open Go.Proofs
set_option maxRecDepth 100000
theorem opens_Pipe : Opens prg rPipe (([T_sl_laws_Ring] ++ ([T_sl_laws_Ring] ++ ([T_sl_float32] ++ (([T_int64] ++ (((List.replicate 3 [T_float32]).flatten) ++ (((List.replicate 2 [T_float32]).flatten)))) ++ ([T_bool] ++ ([T_float32] ++ ([T_float32] ++ ([T_float32]))))))))) := opens_via (fun p => ⟨p.1, p.2.1, p.2.2.1, p.2.2.2.1, p.2.2.2.2.1, p.2.2.2.2.2.1, p.2.2.2.2.2.2.1, p.2.2.2.2.2.2.2⟩) (fun _ => rfl) (opens_seq (opens_sl (n := 9) (U_sl_laws_Ring) (by kernel_rfl) (by kernel_rfl) opens_Ring) (opens_seq (opens_sl (n := 9) (U_sl_laws_Ring) (by kernel_rfl) (by kernel_rfl) opens_Ring) (opens_seq (opens_sl (n := 9) (U_sl_float32) (by kernel_rfl) (by kernel_rfl) (opens_float U_float32)) (opens_seq opens_Filter (opens_seq (opens_bool U_bool) (opens_seq (opens_float U_float32) (opens_seq (opens_float U_float32) ((opens_float U_float32)))))))))
end Go.Sx
/- Given String, Bow opened. -/
set_option linter.unusedVariables false
set_option linter.unusedSimpArgs false
namespace Go.Sx
open Go.Proofs
set_option maxRecDepth 100000
theorem opens_String : Opens prg rString ((([T_sl_float32] ++ ([T_int64])) ++ (([T_int64] ++ (((List.replicate 3 [T_float32]).flatten) ++ (((List.replicate 2 [T_float32]).flatten)))) ++ (([T_int64] ++ (((List.replicate 3 [T_float32]).flatten) ++ (((List.replicate 2 [T_float32]).flatten)))) ++ ([T_float32]))))) := opens_via (fun p => ⟨p.1, p.2.1, p.2.2.1, p.2.2.2⟩) (fun _ => rfl) (opens_seq opens_Ring (opens_seq opens_Filter (opens_seq opens_Filter ((opens_float U_float32)))))
theorem opens_Bow : Opens prg rBow ((([T_sl_float32] ++ ([T_int64])) ++ (([T_sl_float32] ++ ([T_int64])) ++ (([T_int64] ++ (((List.replicate 3 [T_float32]).flatten) ++ (((List.replicate 2 [T_float32]).flatten)))) ++ ([T_float32] ++ ([T_float32])))))) := opens_via (fun p => ⟨p.1, p.2.1, p.2.2.1, p.2.2.2.1, p.2.2.2.2⟩) (fun _ => rfl) (opens_seq opens_Ring (opens_seq opens_Ring (opens_seq opens_Filter (opens_seq (opens_float U_float32) ((opens_float U_float32))))))
end Go.Sx
/- Given Tuning, Instrument, Event, Score opened. -/
set_option linter.unusedVariables false
set_option linter.unusedSimpArgs false
namespace Go.Sx
open Go.Proofs
set_option maxRecDepth 100000
theorem opens_Tuning : Opens prg rTuning (([T_float32] ++ ([T_float32] ++ ([T_sl_float32])))) := opens_via (fun p => ⟨p.1, p.2.1, p.2.2⟩) (fun _ => rfl) (opens_seq (opens_float U_float32) (opens_seq (opens_float U_float32) ((opens_sl (n := 9) (U_sl_float32) (by kernel_rfl) (by kernel_rfl) (opens_float U_float32)))))
theorem opens_Instrument : Opens prg rInstrument (([T_string] ++ ([T_int64] ++ ([T_float32] ++ ([T_float32] ++ ([T_float32])))))) := opens_via (fun p => ⟨p.1, p.2.1, p.2.2.1, p.2.2.2.1, p.2.2.2.2⟩) (fun _ => rfl) (opens_seq (opens_str U_string) (opens_seq (opens_int U_int64) (opens_seq (opens_float U_float32) (opens_seq (opens_float U_float32) ((opens_float U_float32))))))
theorem opens_Event : Opens prg rEvent (([T_int64] ++ ([T_int64] ++ ([T_int64] ++ ([T_int64] ++ ([T_int64] ++ ([T_float32]))))))) := opens_via (fun p => ⟨p.1, p.2.1, p.2.2.1, p.2.2.2.1, p.2.2.2.2.1, p.2.2.2.2.2⟩) (fun _ => rfl) (opens_seq (opens_int U_int64) (opens_seq (opens_int U_int64) (opens_seq (opens_int U_int64) (opens_seq (opens_int U_int64) (opens_seq (opens_int U_int64) ((opens_float U_float32)))))))
theorem opens_Score : Opens prg rScore (([T_float32] ++ (([T_float32] ++ ([T_float32] ++ ([T_sl_float32]))) ++ ([T_sl_laws_Instrument] ++ ([T_sl_laws_Event]))))) := opens_via (fun p => ⟨p.1, p.2.1, p.2.2.1, p.2.2.2⟩) (fun _ => rfl) (opens_seq (opens_float U_float32) (opens_seq opens_Tuning (opens_seq (opens_sl (n := 9) (U_sl_laws_Instrument) (by kernel_rfl) (by kernel_rfl) opens_Instrument) ((opens_sl (n := 9) (U_sl_laws_Event) (by kernel_rfl) (by kernel_rfl) opens_Event)))))
end Go.Sx
/- Given Voice, Player opened. -/
set_option linter.unusedVariables false
set_option linter.unusedSimpArgs false
namespace Go.Sx
open Go.Proofs
set_option maxRecDepth 100000
theorem opens_Voice : Opens prg rVoice (([T_int64] ++ ([T_int64] ++ ([T_int64] ++ ([T_bool] ++ ([T_float32] ++ ((([T_sl_float32] ++ ([T_int64])) ++ (([T_int64] ++ (((List.replicate 3 [T_float32]).flatten) ++ (((List.replicate 2 [T_float32]).flatten)))) ++ (([T_int64] ++ (((List.replicate 3 [T_float32]).flatten) ++ (((List.replicate 2 [T_float32]).flatten)))) ++ ([T_float32])))) ++ (([T_sl_laws_Ring] ++ ([T_sl_laws_Ring] ++ ([T_sl_float32] ++ (([T_int64] ++ (((List.replicate 3 [T_float32]).flatten) ++ (((List.replicate 2 [T_float32]).flatten)))) ++ ([T_bool] ++ ([T_float32] ++ ([T_float32] ++ ([T_float32])))))))) ++ ((([T_sl_float32] ++ ([T_int64])) ++ (([T_sl_float32] ++ ([T_int64])) ++ (([T_int64] ++ (((List.replicate 3 [T_float32]).flatten) ++ (((List.replicate 2 [T_float32]).flatten)))) ++ ([T_float32] ++ ([T_float32])))))))))))))) := opens_via (fun p => ⟨p.1, p.2.1, p.2.2.1, p.2.2.2.1, p.2.2.2.2.1, p.2.2.2.2.2.1, p.2.2.2.2.2.2.1, p.2.2.2.2.2.2.2⟩) (fun _ => rfl) (opens_seq (opens_int U_int64) (opens_seq (opens_int U_int64) (opens_seq (opens_int U_int64) (opens_seq (opens_bool U_bool) (opens_seq (opens_float U_float32) (opens_seq opens_String (opens_seq opens_Pipe (opens_Bow))))))))
end Go.Sx
