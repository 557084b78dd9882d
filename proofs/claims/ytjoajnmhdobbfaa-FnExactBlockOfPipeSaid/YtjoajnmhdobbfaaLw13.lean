/- The law FnExactBlockOfPipe, as the program tells it: the whole. -/
import Derived.Test.YtjoajnmhdobbfaaLw12
import Derived.Test.YtjoajnmhdobbfaaTabE
import Derived.Test.YtjoajnmhdobbfaaLr3
set_option linter.unusedVariables false
set_option linter.unusedSimpArgs false
namespace Go.Sx
open Go.Proofs
set_option maxRecDepth 100000
set_option maxHeartbeats 4000000

section
variable {h : Heap} {x y : GPipe} {xs ys : List Nat} {code : Int}
theorem pk8 {hh : Heap} {g1 g3 gw gwb gx gg ggb : Nat} {cs cb cw bw cx cg bg : Array Value} {Bw Bx Bg L : List Blk} (R0 : rPipe.rd h cs.toList x) (Rb : FA 16 cb xs) (hw : w_Pipe x ≤ 1048576) (hwy : w_Pipe (x.blocked xs).1 ≤ 1048576)
    (Ow : rPipe.ow Bw cw.toList (x.blocked xs).1) (Fw : FA 16 bw (x.blocked xs).2.1) (Ox : rPipe.ow Bx cx.toList x) (Og : rPipe.ow Bg cg.toList (x.blocked xs).1) (Fg : FA 16 bg (x.blocked xs).2.1)
    (M : Mem h hh ((g1, T_laws_Pipe, cs) :: (g3, T_16_float32, cb) :: (gw, T_impl_Pipe, cw) :: (gwb, T_impl_Block, bw) :: (gx, T_impl_Pipe, cx) :: (gg, T_impl_Pipe, cg) :: (ggb, T_impl_Block, bg) :: (Bw ++ (Bx ++ (Bg ++ L))))) :
    laws_FnExactBlockOfPipe.J8 (TT h) ⟨g1, 0, none⟩ ⟨g3, 0, none⟩ ⟨gw, 0, none⟩ ⟨gwb, 0, none⟩ (x.blocked xs).2.2 ⟨gx, 0, none⟩ ⟨gg, 0, none⟩ ⟨ggb, 0, none⟩ (x.blocked xs).2.2 hh := by
  have hn := nw_Pipe x
  refine M.lda0 (.there (.there (.there (.there (.there .here))))) (osz Og rfl) (M.lda0 (.there (.there .here)) (osz Ow rfl) (goM M (eq_Pipe_c (prdC M (fun p => by simp only [cnt_app, cnt_cons, cnt_nil] at *; omega) Og) (prdC M (fun p => by simp only [cnt_app, cnt_cons, cnt_nil] at *; omega) Ow)) fun h1 M => as_b (bne_br rfl ?_)))
  refine M.lda0 (.there (.there (.there (.there (.there (.there .here)))))) Fg.size (M.lda0 (.there (.there (.there .here))) Fw.size (goM M (eq_Block_c (Fg.rd _) (Fw.rd _)) fun h13 M => as_b (bne_br rfl (eqB ?_))))
  have R7 : rPipe.rd h13 cx.toList x := prdC M (fun p => by simp only [cnt_app, cnt_cons, cnt_nil] at *; omega) Ox
  have P7 : RdP rPipe h13 ⟨gx, 0, none⟩ x := M.rdp (.there (.there (.there (.there .here)))) R7
  refine M.lda0 (.there (.there (.there (.there .here)))) (osz Ox rfl) (M.lda0 .here (rsz R0 rfl) (NewR.go (Mem.start h13) (to_Pipe_c (rPipe.ext M.ext R0) hw) fun h14 c14 B14 N O14 s14 => as_a (P7.pin rfl N.ext ?_)))
  have M := M.join N
  refine goM M (eq_Pipe_c (rPipe.ext N.ext R7) (prdC M (fun p => by simp only [cnt_app, cnt_cons, cnt_nil] at *; omega) O14)) fun h15 M => as_b (bne_br rfl ?_)
  have M := M.cnt (W := Bx ++ ((g1, T_laws_Pipe, cs) :: (g3, T_16_float32, cb) :: (gw, T_impl_Pipe, cw) :: (gwb, T_impl_Block, bw) :: (gx, T_impl_Pipe, cx) :: (gg, T_impl_Pipe, cg) :: (ggb, T_impl_Block, bg) :: (Bw ++ (Bg ++ L)))) (fun p => by simp only [cnt_app, cnt_cons, cnt_nil] at *; omega)
  refine M.lda0 (Look.skip (.there (.there (.there (.there .here))))) (osz Ox rfl) (markM (mark_Pipe_c Ox M 1 hw (by omega) : CALL prg f_laws_markPipe #[.agg cx, .int .i64 (1 : Int)] _ _) fun h16 B16 M O16 => as_i (ge_br (by omega) ?_))
  refine M.lda0 (Look.skip (.there (.there (.there (.there (.there .here)))))) (osz Og rfl) (M.lda0 (Look.skip (.there (.there .here))) (osz Ow rfl) (goM M (eq_Pipe_c (prdC M (fun p => by simp only [cnt_app, cnt_cons, cnt_nil] at *; omega) Og) (prdC M (fun p => by simp only [cnt_app, cnt_cons, cnt_nil] at *; omega) Ow)) fun h1 M => as_b (bne_br rfl ?_)))
  refine M.lda0 (Look.skip (.there (.there (.there (.there (.there (.there .here))))))) Fg.size (M.lda0 (Look.skip (.there (.there (.there .here)))) Fw.size (goM M (eq_Block_c (Fg.rd _) (Fw.rd _)) fun h17 M => as_b (bne_br rfl (eqB ?_))))
  exact pk16 (L := []) R0 Rb hw hwy Ow Fw Og (M.cnt fun p => by simp only [cnt_app, cnt_cons, cnt_nil] at *; omega)
theorem pk6 {hh : Heap} {g1 g3 gw gwb : Nat} {cs cb cw bw : Array Value} {Bw L : List Blk} (R0 : rPipe.rd h cs.toList x) (Rb : FA 16 cb xs) (hw : w_Pipe x ≤ 1048576) (hwy : w_Pipe (x.blocked xs).1 ≤ 1048576)
    (Ow : rPipe.ow Bw cw.toList (x.blocked xs).1) (Fw : FA 16 bw (x.blocked xs).2.1)
    (M : Mem h hh ((g1, T_laws_Pipe, cs) :: (g3, T_16_float32, cb) :: (gw, T_impl_Pipe, cw) :: (gwb, T_impl_Block, bw) :: (Bw ++ L))) :
    laws_FnExactBlockOfPipe.J6 (TT h) ⟨g1, 0, none⟩ ⟨g3, 0, none⟩ ⟨gw, 0, none⟩ ⟨gwb, 0, none⟩ (x.blocked xs).2.2 hh := by
  refine M.lda0 .here (rsz R0 rfl) (NewR.go M (to_Pipe_c (rPipe.ext M.ext R0) hw) fun h3 c3 B3 M O3 s3 => as_a (M.alc fun gx h5 x5 M => M.sta0 .here s3 (rPipe.oone O3) rfl .here fun h7 M => M.lda0 .here s3 ?_))
  have M : Mem h h7 ((gx, T_impl_Pipe, c3) :: (B3 ++ ((g1, T_laws_Pipe, cs) :: (g3, T_16_float32, cb) :: (gw, T_impl_Pipe, cw) :: (gwb, T_impl_Block, bw) :: (Bw ++ L)))) := M
  refine M.lda0 (.there (Look.skip (.there .here))) Rb.size ?_
  have R1 : rPipe.rd h7 c3.toList x := prdC M (fun p => by simp only [cnt_app, cnt_cons, cnt_nil] at *; omega) O3
  have P1 : RdP rPipe h7 ⟨gx, 0, none⟩ x := M.rdp .here R1
  have P3 : RdP (rArr 16 (rF .f32)) h7 ⟨g3, 0, none⟩ xs := M.rdp (.there (Look.skip (.there .here))) (Rb.rd _)
  have M0 := M
  have fin : ∀ {hh : Heap} {gR gB : Nat} {c4 b4 : Array Value} {B4 W : List Blk}, Mem h7 hh W → rPipe.ow B4 c4.toList (x.blocked xs).1 → FA 16 b4 (x.blocked xs).2.1 → (∀ p, Sx.cnt p ((gR, T_impl_Pipe, ⟨Z_impl_Pipe⟩) :: (gB, T_impl_Block, ⟨Z_impl_Block⟩) :: B4) ≤ Sx.cnt p W) →
      STA 13 hh ⟨gR, 0, none⟩ c4 fun h5 => STA 16 h5 ⟨gB, 0, none⟩ b4 fun h6 => laws_FnExactBlockOfPipe.J8 (TT h) ⟨g1, 0, none⟩ ⟨g3, 0, none⟩ ⟨gw, 0, none⟩ ⟨gwb, 0, none⟩ (x.blocked xs).2.2 ⟨gx, 0, none⟩ ⟨gR, 0, none⟩ ⟨gB, 0, none⟩ (x.blocked xs).2.2 h6 := by
    intro hh gR gB c4 b4 B4 W N O F hc
    have M := (M0.join (N.cnt hc))
    refine M.sta0 .here (osz O rfl) (rPipe.oone O) rfl .here fun h5 M => M.sta0 (.there .here) F.size F.one rfl (.there .here) fun h6 M => ?_
    exact pk8 (L := []) R0 Rb hw hwy Ow Fw O3 O F (M.cnt fun p => by simp only [List.append_eq, cnt_app, cnt_cons, cnt_nil] at *; omega)
  have N0 := Mem.start h7
  clear M M0 O3
  (repeat' (first
    | refine P3.pin rfl (Mem.ext (by assumption)) ?_
    | refine P1.pin rfl (Mem.ext (by assumption)) ?_
    | refine NewR.go (by assumption) (NewR.blk Rb _) fun _ _ _ _ _ _ => as_a ?_
    | refine TriP.go (by assumption) (impl_BlockOfPipe_c (x := x) (xs := xs) (rPipe.ext (Mem.ext (by assumption)) R1) (FA.ofow (by assumption))) fun _ _ _ _ _ _ _ _ => tup3 (as_a (as_a (as_i ?_)))
    | refine Mem.alc (by assumption) fun _ _ _ _ => ?_
    | exact fin (by assumption) (by assumption) (by assumption) (fun p => by simp only [cnt_app, cnt_cons, cnt_nil] at *; omega)
    | refine And.intro ?_ ?_))
theorem FnExactBlockOfPipe_c {cs cb : Array Value} (R0 : rPipe.rd h cs.toList x) (Rb : FA 16 cb xs) : CALL prg f_laws_FnExactBlockOfPipe #[.agg cs, .agg cb] (TT h) h := by
  have hwy : w_Pipe (x.blocked xs).1 ≤ 1048576 := pw_blocked
  refine laws_FnExactBlockOfPipe.call ((Mem.start h).alc fun g1 h1 x1 M => M.alc fun g3 h2 x2 M => M.lda0 (.there .here) (rsz R0 rfl) (goM M (sz_Pipe_c (rPipe.ext M.ext R0) 1048576 (by omega) : CALL prg f_laws_szPipe #[.agg cs, .int .i64 (1048576 : Int)] _ _) fun h7 M => as_i (br (fun hb => ⟨rfl, M.ext⟩) fun hb => ?_)))
  have hw := subW_le hb
  refine M.lda0 (.there .here) (rsz R0 rfl) (M.lda0 .here Rb.size ?_)
  have R1 := rPipe.ext M.ext R0
  have P1 : RdP rPipe h7 ⟨g1, 0, none⟩ x := M.rdp (.there .here) R1
  have P3 : RdP (rArr 16 (rF .f32)) h7 ⟨g3, 0, none⟩ xs := M.rdp .here (Rb.rd _)
  have M0 := M
  have fin : ∀ {hh : Heap} {gR gB : Nat} {c4 b4 : Array Value} {B4 W : List Blk}, Mem h7 hh W → rPipe.ow B4 c4.toList (x.blocked xs).1 → FA 16 b4 (x.blocked xs).2.1 → (∀ p, Sx.cnt p ((gR, T_impl_Pipe, ⟨Z_impl_Pipe⟩) :: (gB, T_impl_Block, ⟨Z_impl_Block⟩) :: B4) ≤ Sx.cnt p W) →
      STA 13 hh ⟨gR, 0, none⟩ c4 fun h5 => STA 16 h5 ⟨gB, 0, none⟩ b4 fun h6 => laws_FnExactBlockOfPipe.J6 (TT h) ⟨g1, 0, none⟩ ⟨g3, 0, none⟩ ⟨gR, 0, none⟩ ⟨gB, 0, none⟩ (x.blocked xs).2.2 h6 := by
    intro hh gR gB c4 b4 B4 W N O F hc
    have M := (M0.join (N.cnt hc))
    refine M.sta0 .here (osz O rfl) (rPipe.oone O) rfl .here fun h5 M => M.sta0 (.there .here) F.size F.one rfl (.there .here) fun h6 M => ?_
    exact pk6 (L := []) R0 Rb hw hwy O F (M.cnt fun p => by simp only [List.append_eq, cnt_app, cnt_cons, cnt_nil] at *; omega)
  have N0 := Mem.start h7
  clear M M0
  (repeat' (first
    | refine P3.pin rfl (Mem.ext (by assumption)) ?_
    | refine P1.pin rfl (Mem.ext (by assumption)) ?_
    | refine NewR.go (by assumption) (to_Pipe_c (rPipe.ext (Mem.ext (by assumption)) R1) hw) fun _ _ _ _ _ _ => as_a ?_
    | refine NewR.go (by assumption) (NewR.blk Rb _) fun _ _ _ _ _ _ => as_a ?_
    | refine TriP.go (by assumption) (spec_BlockOfPipe_c (x := x) (xs := xs) (prdD (by assumption) (by assumption) (fun p => by simp only [cnt_app, cnt_cons, cnt_nil] at *; omega)) (FA.ofow (by assumption))) fun _ _ _ _ _ _ _ _ => tup3 (as_a (as_a (as_i ?_)))
    | refine Mem.alc (by assumption) fun _ _ _ _ => ?_
    | exact fin (by assumption) (by assumption) (by assumption) (fun p => by simp only [cnt_app, cnt_cons, cnt_nil] at *; omega)
    | refine And.intro ?_ ?_))
end
end Go.Sx
/- Given Ring, Filter opened. -/
set_option linter.unusedVariables false
set_option linter.unusedSimpArgs false
namespace Go.Sx
open Go.Proofs
set_option maxRecDepth 100000
theorem opens_Ring : Opens prg rRing (([T_sl_float32] ++ ([T_int64]))) := opens_via (fun p => ⟨p.1, p.2⟩) (fun _ => rfl) (opens_seq (opens_sl (n := 9) (U_sl_float32) (by kernel_rfl) (by kernel_rfl) (opens_float U_float32)) ((opens_int U_int64)))
theorem opens_Filter : Opens prg rFilter (([T_int64] ++ (((List.replicate 3 [T_float32]).flatten) ++ (((List.replicate 2 [T_float32]).flatten))))) := opens_via (fun p => ⟨p.1, p.2.1, p.2.2⟩) (fun _ => rfl) (opens_seq (opens_int U_int64) (opens_seq (opens_arr 3 (opens_float U_float32)) ((opens_arr 2 (opens_float U_float32)))))
end Go.Sx
/- Given Pipe opened. -/
set_option linter.unusedVariables false
set_option linter.unusedSimpArgs false
namespace Go.Sx
open Go.Proofs
set_option maxRecDepth 100000
theorem opens_Pipe : Opens prg rPipe (([T_sl_laws_Ring] ++ ([T_sl_laws_Ring] ++ ([T_sl_float32] ++ (([T_int64] ++ (((List.replicate 3 [T_float32]).flatten) ++ (((List.replicate 2 [T_float32]).flatten)))) ++ ([T_bool] ++ ([T_float32] ++ ([T_float32] ++ ([T_float32]))))))))) := opens_via (fun p => ⟨p.1, p.2.1, p.2.2.1, p.2.2.2.1, p.2.2.2.2.1, p.2.2.2.2.2.1, p.2.2.2.2.2.2.1, p.2.2.2.2.2.2.2⟩) (fun _ => rfl) (opens_seq (opens_sl (n := 9) (U_sl_laws_Ring) (by kernel_rfl) (by kernel_rfl) opens_Ring) (opens_seq (opens_sl (n := 9) (U_sl_laws_Ring) (by kernel_rfl) (by kernel_rfl) opens_Ring) (opens_seq (opens_sl (n := 9) (U_sl_float32) (by kernel_rfl) (by kernel_rfl) (opens_float U_float32)) (opens_seq opens_Filter (opens_seq (opens_bool U_bool) (opens_seq (opens_float U_float32) (opens_seq (opens_float U_float32) ((opens_float U_float32)))))))))
end Go.Sx
