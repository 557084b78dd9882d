/- The law FnExactPlayRoom, as the program tells it. -/
import Derived.Test.YtdhhfilfcpljoaaGreatLw6
set_option linter.unusedVariables false
set_option linter.unusedSimpArgs false
namespace Go.Sx
open Go.Proofs
set_option maxRecDepth 100000
set_option maxHeartbeats 1000000

section
variable {h : Heap} {x : GRoom} {xs : List Nat} {b : Option Addr} {l c : Nat}
theorem FnExactPlayRoom_c {cs : Array Value} (R0 : rRoom.rd h cs.toList x) (S0 : SlR (rF .f32) h b l c xs) : CALL prg f_laws_FnExactPlayRoom #[.agg cs, .slice b l c] (fun u h' => u = .bool true ∧ Ext h h') h := by
  have hl := S0.len
  refine laws_FnExactPlayRoom.call ((Mem.start h).alc fun g1 h1 x1 M => brd (fun hc => ⟨rfl, M.ext⟩) fun hc => M.lda0 .here (rsz R0 rfl) (goM M (sz_Room_c (rRoom.ext M.ext R0) 1048576 (by omega) : CALL prg f_laws_szRoom #[.agg cs, .int .i64 (1048576 : Int)] _ _) fun h2 M => as_i (br (fun hb => ⟨rfl, M.ext⟩) fun hb => ?_)))
  have hw := subW_le hb
  have hwt : w_Float32S xs ≤ 1048576 := by unfold w_Float32S; omega
  have hnt : n_Float32S xs ≤ 1048576 := hwt
  have hw' : w_Room (x.played xs).1 ≤ 1048576 := w_played R0
  have hlt : w_Float32S (x.played xs).2.1 ≤ 1048576 := Nat.le_trans l_played (by decide)
  have hlt' : n_Float32S (x.played xs).2.1 ≤ 1048576 := hlt
  have hn := nw_Room x
  have hn' := nw_Room (x.played xs).1
  refine M.lda0 .here (rsz R0 rfl) (NewR.go M (to_Room_c (rRoom.ext M.ext R0) hw) fun h3 c3 B3 M O3 s3 => as_a ?_)
  refine goS M (to_Float32S_c (S0.ext M.ext) hwt) fun h3' b3 k3 T3 M S3 => as_l ?_
  have rdO : ∀ {hh : Heap} {W B : List Blk} {c : Array Value} {y : GRoom}, Mem h hh W → (∀ p, Sx.cnt p B ≤ Sx.cnt p W) → rRoom.ow B c.toList y → rRoom.rd hh c.toList y := fun M hc O => rRoom.look O (M.cnt hc) (List.Sublist.refl _)
  have rdS : ∀ {hh : Heap} {W B : List Blk} {b : Option Addr} {l c : Nat} {y : List Nat}, Mem h hh W → (∀ p, Sx.cnt p B ≤ Sx.cnt p W) → SlO T_float32 (rF .f32) B b l c y → SlR (rF .f32) hh b l c y := fun M hc O => O.look (M.cnt hc) (List.Sublist.refl _)
  refine TriL.go M (spec_PlayRoom_c (rdO M (fun p => by simp only [cnt_app, cnt_cons, cnt_nil] at *; omega) O3) (rdS M (fun p => by simp only [cnt_app, cnt_cons, cnt_nil] at *; omega) S3)) fun h4 c4 B4 b4 l4 k4 T4 M O4 s4 S4 => tup3 (as_a (as_l (as_i (M.alc fun g17 h5 x5 M => M.sta0 .here s4 (rRoom.oone O4) rfl .here fun h6 M => ?_))))
  have M := M.cnt (W := (g1, T_laws_Room, cs) :: (g17, T_impl_Room, c4) :: (B4 ++ T4)) (fun p => by simp only [cnt_app, cnt_cons, cnt_nil] at *; omega)
  refine M.lda0 .here (rsz R0 rfl) (NewR.go M (to_Room_c (rRoom.ext M.ext R0) hw) fun h7 c7 B7 M O7 s7 => as_a (M.alc fun g24 h8 x8 M => M.sta0 .here s7 (rRoom.oone O7) rfl .here fun h9 M => ?_))
  refine goS M (to_Float32S_c (S0.ext M.ext) hwt) fun h9' b7 k7 T7 M S7 => as_l (M.lda0 (Look.skip .here) s7 ?_)
  refine TriL.go M (impl_PlayRoom_c (rdO M (fun p => by simp only [cnt_app, cnt_cons, cnt_nil] at *; omega) O7) (rdS M (fun p => by simp only [cnt_app, cnt_cons, cnt_nil] at *; omega) S7)) fun h10 c10 B10 b10 l10 k10 T10 M O10 s10 S10 => tup3 (as_a (as_l (as_i (M.alc fun g34 h11 x11 M => M.sta0 .here s10 (rRoom.oone O10) rfl .here fun h12 M => M.lda0 .here s10 ?_))))
  have M := M.cnt (W := (g1, T_laws_Room, cs) :: (g17, T_impl_Room, c4) :: (g24, T_impl_Room, c7) :: (g34, T_impl_Room, c10) :: (B4 ++ (T4 ++ (B7 ++ (T7 ++ (B10 ++ T10)))))) (fun p => by simp only [cnt_app, cnt_cons, cnt_nil] at *; omega)
  refine M.lda0 (.there .here) s4 (goM M (eq_Room_c (rdO M (fun p => by simp only [cnt_app, cnt_cons, cnt_nil] at *; omega) O10) (rdO M (fun p => by simp only [cnt_app, cnt_cons, cnt_nil] at *; omega) O4)) fun h13 M => as_b (bne_br rfl ?_))
  refine goM M (eq_Float32S_c (rdS M (fun p => by simp only [cnt_app, cnt_cons, cnt_nil] at *; omega) S10) (rdS M (fun p => by simp only [cnt_app, cnt_cons, cnt_nil] at *; omega) S4)) fun h13 M => as_b (bne_br rfl (eqB ?_))
  have R7 : rRoom.rd h13 c7.toList x := rdO M (fun p => by simp only [cnt_app, cnt_cons, cnt_nil] at *; omega) O7
  have P7 : RdP rRoom h13 ⟨g24, 0, none⟩ x := M.rdp (.there (.there .here)) R7
  refine M.lda0 (.there (.there .here)) s7 (M.lda0 .here (rsz R0 rfl) (NewR.go (Mem.start h13) (to_Room_c (rRoom.ext M.ext R0) hw) fun h14 c14 B14 N O14 s14 => as_a (P7.pin rfl N.ext ?_)))
  have M := M.join N
  refine goM M (eq_Room_c (rRoom.ext N.ext R7) (rdO M (fun p => by simp only [cnt_app, cnt_cons, cnt_nil] at *; omega) O14)) fun h15 M => as_b (bne_br rfl ?_)
  refine goS M (to_Float32S_c (S0.ext M.ext) hwt) fun h15' b15 k15 T15 M S15 => as_l ?_
  refine goM M (eq_Float32S_c (rdS M (fun p => by simp only [cnt_app, cnt_cons, cnt_nil] at *; omega) S7) (rdS M (fun p => by simp only [cnt_app, cnt_cons, cnt_nil] at *; omega) S15)) fun h15 M => as_b (bne_br rfl ?_)
  have M := M.cnt (W := B7 ++ ((g1, T_laws_Room, cs) :: (g17, T_impl_Room, c4) :: (g24, T_impl_Room, c7) :: (g34, T_impl_Room, c10) :: (T7 ++ (B4 ++ (T4 ++ (B10 ++ T10)))))) (fun p => by simp only [cnt_app, cnt_cons, cnt_nil] at *; omega)
  refine M.lda0 (Look.skip (.there (.there .here))) s7 (markM (mark_Room_c O7 M 1 hw (by omega) : CALL prg f_laws_markRoom #[.agg c7, .int .i64 (1 : Int)] _ _) fun h16 B16 M O16 => as_i ?_)
  have M := M.cnt (W := T7 ++ ((g1, T_laws_Room, cs) :: (g17, T_impl_Room, c4) :: (g34, T_impl_Room, c10) :: (B4 ++ (T4 ++ (B10 ++ T10))))) (fun p => by simp only [cnt_app, cnt_cons, cnt_nil] at *; omega)
  refine markS (mark_Float32S_c S7 M _ hwt (by omega)) fun h16 T16 M S16 => as_i (ge_br (by omega) ?_)
  refine M.lda0 (Look.skip (.there (.there .here))) s10 (M.lda0 (Look.skip (.there .here)) s4 (goM M (eq_Room_c (rdO M (fun p => by simp only [cnt_app, cnt_cons, cnt_nil] at *; omega) O10) (rdO M (fun p => by simp only [cnt_app, cnt_cons, cnt_nil] at *; omega) O4)) fun h17 M => as_b (bne_br rfl ?_)))
  refine goM M (eq_Float32S_c (rdS M (fun p => by simp only [cnt_app, cnt_cons, cnt_nil] at *; omega) S10) (rdS M (fun p => by simp only [cnt_app, cnt_cons, cnt_nil] at *; omega) S4)) fun h17 M => as_b (bne_br rfl (eqB ?_))
  have M := M.cnt (W := B10 ++ ((g1, T_laws_Room, cs) :: (g17, T_impl_Room, c4) :: (g34, T_impl_Room, c10) :: (B4 ++ (T4 ++ T10)))) (fun p => by simp only [cnt_app, cnt_cons, cnt_nil] at *; omega)
  refine M.lda0 (Look.skip (.there (.there .here))) s10 (markM (mark_Room_c O10 M 1 hw' (by omega) : CALL prg f_laws_markRoom #[.agg c10, .int .i64 (1 : Int)] _ _) fun h18 B18 M O18 => as_i ?_)
  have M := M.cnt (W := T10 ++ ((g1, T_laws_Room, cs) :: (g17, T_impl_Room, c4) :: (g34, T_impl_Room, c10) :: (B4 ++ (T4 ++ B18)))) (fun p => by simp only [cnt_app, cnt_cons, cnt_nil] at *; omega)
  refine markS (mark_Float32S_c S10 M _ hlt (by omega)) fun h18 T18 M S18 => as_i ?_
  refine M.lda0 (Look.skip (.there (.there .here))) s10 (goM M (held_Room_c 1 (rdO M (fun p => by simp only [cnt_app, cnt_cons, cnt_nil] at *; omega) O18) hw' (by omega) : CALL prg f_laws_heldRoom #[.agg c10, .int .i64 (1 : Int)] _ _) fun h19 M => as_i (ge_br (by omega) ?_))
  refine goM M (held_Float32S_c _ (rdS M (fun p => by simp only [cnt_app, cnt_cons, cnt_nil] at *; omega) S18) hlt (by omega)) fun h19 M => as_i (ge_br (by omega) (eqB ?_))
  refine M.lda0 (Look.skip .here) (rsz R0 rfl) (NewR.go M (to_Room_c (rRoom.ext M.ext R0) hw) fun h20 c20 B20 M O20 s20 => as_a ?_)
  refine goS M (to_Float32S_c (S0.ext M.ext) hwt) fun h20 b20 k20 T20 M S20 => as_l ?_
  refine TriL.go M (impl_PlayRoom_c (rdO M (fun p => by simp only [cnt_app, cnt_cons, cnt_nil] at *; omega) O20) (rdS M (fun p => by simp only [cnt_app, cnt_cons, cnt_nil] at *; omega) S20)) fun h21 c21 B21 b21 l21 k21 T21 M O21 s21 S21 => tup3 (as_a (as_l (as_i (M.alc fun g77 h22 x22 M => M.sta0 .here s21 (rRoom.oone O21) rfl .here fun h23 M => M.lda0 .here s21 ?_))))
  have M := M.cnt (W := (g17, T_impl_Room, c4) :: (g34, T_impl_Room, c10) :: (B21 ++ (T21 ++ (B18 ++ (T18 ++ (B4 ++ T4)))))) (fun p => by simp only [cnt_app, cnt_cons, cnt_nil] at *; omega)
  refine M.lda0 .here s4 (goM M (eq_Room_c (rdO M (fun p => by simp only [cnt_app, cnt_cons, cnt_nil] at *; omega) O21) (rdO M (fun p => by simp only [cnt_app, cnt_cons, cnt_nil] at *; omega) O4)) fun h24 M => as_b (bne_br rfl ?_))
  refine goM M (eq_Float32S_c (rdS M (fun p => by simp only [cnt_app, cnt_cons, cnt_nil] at *; omega) S21) (rdS M (fun p => by simp only [cnt_app, cnt_cons, cnt_nil] at *; omega) S4)) fun h24 M => as_b (bne_br rfl (eqB ?_))
  refine M.lda0 (.there .here) s10 (goM M (held_Room_c 1 (rdO M (fun p => by simp only [cnt_app, cnt_cons, cnt_nil] at *; omega) O18) hw' (by omega) : CALL prg f_laws_heldRoom #[.agg c10, .int .i64 (1 : Int)] _ _) fun h25 M => as_i (ge_br (by omega) ?_))
  exact goM M (held_Float32S_c _ (rdS M (fun p => by simp only [cnt_app, cnt_cons, cnt_nil] at *; omega) S18) hlt (by omega)) fun h25 M => as_i (ge_br (by omega) (eqB ⟨rfl, M.ext⟩))
end
end Go.Sx
