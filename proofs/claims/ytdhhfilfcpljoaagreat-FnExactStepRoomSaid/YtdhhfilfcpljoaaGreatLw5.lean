/- StepRoom: the rule, the program, and the law. -/
import Derived.Test.YtdhhfilfcpljoaaGreatLs4
import Derived.Test.YtdhhfilfcpljoaaGreatLw0
import Derived.Test.YtdhhfilfcpljoaaGreatStepRoom
set_option linter.unusedVariables false
set_option linter.unusedSimpArgs false
namespace Go.Sx
open Go.Proofs
set_option maxRecDepth 100000
set_option maxHeartbeats 1000000

/-- A room, a float and a code, told by a call. -/
def TriR (h h' : Heap) (u : Value) (x : GRoom) (b : Nat) (code : Int) : Prop := ∃ cs B y, u = .tuple ⟨[.agg cs, .float .f32 y, .int .i64 code]⟩ ∧ FW .f32 y b ∧ rRoom.ow B cs.toList x ∧ Mem h h' B
theorem TriR.go {P : Program} {f : FuncId} {args : Array Value} {x : GRoom} {b : Nat} {code : Int} {hb h : Heap} {L : List Blk} {K : Value → Heap → Prop} (M : Mem hb h L) (c : CALL P f args (fun u h' => TriR h h' u x b code) h)
    (H : ∀ h' cs B y, Mem hb h' (B ++ L) → rRoom.ow B cs.toList x → cs.size = rRoom.sz → FW .f32 y b → K (.tuple ⟨[.agg cs, .float .f32 y, .int .i64 code]⟩) h') : CALL P f args K h :=
  c.mono fun u h' ⟨cs, B, y, e, hy, O, N⟩ => by subst e; exact H h' cs B y (M.join N) O (by simpa using rRoom.olen O) hy
def GRoom.stepped (x : GRoom) (a : Nat) : GRoom × Nat × Int := if x.ok then ((x.step a).1, (x.step a).2, 0) else (z_Room, 0, 1)
section
variable {h : Heap} {x : GRoom} {w a : Nat}
theorem spec_StepRoom_c {cs : Array Value} (R0 : rRoom.rd h cs.toList x) (hx : FW .f32 w a) : CALL prg f_spec_StepRoom #[.agg cs, .float .f32 w] (fun u h' => TriR h h' u (x.stepped a).1 (x.stepped a).2.1 (x.stepped a).2.2) h := by
  refine spec_StepRoom.call ((Mem.start h).alc fun g1 h1 x1 M => M.alc fun g3 h2 x2 M => ?_)
  have R : RdP rRoom h2 ⟨g1, 0, none⟩ x := M.rdp (.there .here) (rRoom.ext M.ext R0)
  refine goM M (l06Ok_c R) fun h3 M => as_b (br (fun hb => ?_) fun hb => ?_)
  · have e : x.stepped a = (z_Room, 0, 1) := by unfold GRoom.stepped; rw [nt hb]; rfl
    rw [e]
    exact M.sta0 .here rfl (all_one rfl) rfl .here fun h3 M => M.lda0 .here rfl ⟨_, [], _, rfl, fw0, zow_Room, M.drop.drop⟩
  have hok := nf hb
  have e : x.stepped a = ((x.step a).1, (x.step a).2, 0) := by unfold GRoom.stepped; rw [hok]; rfl
  rw [e]
  have R : RdP rRoom h3 ⟨g1, 0, none⟩ x := M.rdp (.there .here) (rRoom.ext M.ext R0)
  refine NewR.go M (l06Copy_c R (ok_small hok)) fun h4 c4 B4 M O4 s4 => as_a (M.alc fun g13 h5 x5 M => ?_)
  refine M.sta0 .here s4 (rRoom.oone O4) rfl .here fun h6 M => ?_
  have P : Pt rRoom h h6 ⟨g13, 0, none⟩ ⟨g13, T_impl_Room, [], []⟩ [(g3, T_impl_Room, ⟨Z_impl_Room⟩), (g1, T_impl_Room, cs)] x := Pt.new O4 M
  refine (l06Step_c P (room_runs R0 hok) hx).mono ?_
  rintro _ h7 ⟨⟨y, rfl, hy⟩, P⟩
  obtain ⟨cs, B, M, O⟩ := P.out
  refine as_f (M.lda0 .here (osz O rfl) ?_)
  have M := M.cnt (W := (g3, T_impl_Room, ⟨Z_impl_Room⟩) :: B) (fun p => by simp only [cnt_app, cnt_cons, cnt_nil] at *; omega)
  refine M.sta0 .here (osz O rfl) (rRoom.oone O) rfl .here fun h3 M => M.lda0 .here (osz O rfl) ?_
  exact ⟨_, B, y, rfl, hy, O, M.drop⟩
theorem impl_StepRoom_c {cs : Array Value} (R0 : rRoom.rd h cs.toList x) (hx : FW .f32 w a) : CALL prg f_impl_StepRoom #[.agg cs, .float .f32 w] (fun u h' => TriR h h' u (x.stepped a).1 (x.stepped a).2.1 (x.stepped a).2.2) h := by
  refine impl_StepRoom.call ((Mem.start h).alc fun g1 h1 x1 M => M.alc fun g3 h2 x2 M => M.lda0 (.there .here) (rsz R0 rfl) ?_)
  refine goM M (ValidRoom_c (rRoom.ext M.ext R0)) fun h3 M => as_b (br (fun hb => ?_) fun hb => ?_)
  · have e : x.stepped a = (z_Room, 0, 1) := by unfold GRoom.stepped; rw [nt hb]; rfl
    rw [e]
    exact M.sta0 .here rfl (all_one rfl) rfl .here fun h3 M => M.lda0 .here rfl ⟨_, [], _, rfl, fw0, zow_Room, M.drop.drop⟩
  have hok := nf hb
  have e : x.stepped a = ((x.step a).1, (x.step a).2, 0) := by unfold GRoom.stepped; rw [hok]; rfl
  rw [e]
  refine M.lda0 (.there .here) (rsz R0 rfl) (NewR.go M (Room_clone_c (rRoom.ext M.ext R0) (ok_small hok)) fun h4 c4 B4 M O4 s4 => as_a ?_)
  have M := M.cnt (W := (g1, T_impl_Room, cs) :: (B4 ++ [(g3, T_impl_Room, ⟨Z_impl_Room⟩)])) (fun p => by simp only [cnt_app, cnt_cons, cnt_nil] at *; omega)
  refine M.sta0 .here s4 (rRoom.oone O4) (rsz R0 rfl) .here fun h6 M => ?_
  have P : Pt rRoom h h6 ⟨g1, 0, none⟩ ⟨g1, T_impl_Room, [], []⟩ [(g3, T_impl_Room, ⟨Z_impl_Room⟩)] x := Pt.new O4 M
  refine (Room_step_c P (room_runs R0 hok) hx).mono ?_
  rintro _ h7 ⟨⟨y, rfl, hy⟩, P⟩
  obtain ⟨cs, B, M, O⟩ := P.out
  refine as_f (M.lda0 .here (osz O rfl) ?_)
  have M := M.cnt (W := (g3, T_impl_Room, ⟨Z_impl_Room⟩) :: B) (fun p => by simp only [cnt_app, cnt_cons, cnt_nil] at *; omega)
  refine M.sta0 .here (osz O rfl) (rRoom.oone O) rfl .here fun h3 M => M.lda0 .here (osz O rfl) ?_
  exact ⟨_, B, y, rfl, hy, O, M.drop⟩
theorem w_stepped {cs : List Value} (R0 : rRoom.rd h cs x) : w_Room (x.stepped a).1 ≤ 1048576 := by
  unfold GRoom.stepped
  split
  · next hok =>
    have ht : (x.step a).1.Taps.length ≤ 6 := by
      show x.Taps.length ≤ 6
      exact ok_taps hok
    exact w_runs (step_runs (room_runs R0 hok) a) ht
  · exact w_zero
theorem FnExactStepRoom_c {cs : Array Value} (R0 : rRoom.rd h cs.toList x) (hx : FW .f32 w a) : CALL prg f_laws_FnExactStepRoom #[.agg cs, .float .f32 w] (fun u h' => u = .bool true ∧ Ext h h') h := by
  refine laws_FnExactStepRoom.call ((Mem.start h).alc fun g1 h1 x1 M => M.lda0 .here (rsz R0 rfl) (goM M (sz_Room_c (rRoom.ext M.ext R0) 1048576 (by omega) : CALL prg f_laws_szRoom #[.agg cs, .int .i64 (1048576 : Int)] _ _) fun h2 M => as_i (br (fun hb => ⟨rfl, M.ext⟩) fun hb => ?_)))
  have hw := subW_le hb
  have hw' : w_Room (x.stepped a).1 ≤ 1048576 := w_stepped R0
  have hn := nw_Room x
  have hn' := nw_Room (x.stepped a).1
  refine M.lda0 .here (rsz R0 rfl) (NewR.go M (to_Room_c (rRoom.ext M.ext R0) hw) fun h3 c3 B3 M O3 s3 => as_a ?_)
  refine TriR.go M (spec_StepRoom_c (rRoom.look O3 M (List.sublist_append_left _ _)) hx) fun h4 c4 B4 v4 M O4 s4 f4 => tup3 (as_a (as_f (as_i (M.alc fun g17 h5 x5 M => M.sta0 .here s4 (rRoom.oone O4) rfl .here fun h6 M => ?_))))
  have M := M.cnt (W := (g1, T_laws_Room, cs) :: (g17, T_impl_Room, c4) :: B4) (fun p => by simp only [cnt_app, cnt_cons, cnt_nil] at *; omega)
  refine M.lda0 .here (rsz R0 rfl) (NewR.go M (to_Room_c (rRoom.ext M.ext R0) hw) fun h7 c7 B7 M O7 s7 => as_a (M.alc fun g24 h8 x8 M => M.sta0 .here s7 (rRoom.oone O7) rfl .here fun h9 M => M.lda0 .here s7 ?_))
  refine TriR.go M (impl_StepRoom_c (rRoom.look O7 M ((List.sublist_append_left _ _).trans (List.sublist_cons_self _ _))) hx) fun h10 c10 B10 v10 M O10 s10 f10 => tup3 (as_a (as_f (as_i (M.alc fun g34 h11 x11 M => M.sta0 .here s10 (rRoom.oone O10) rfl .here fun h12 M => M.lda0 .here s10 ?_))))
  have M := M.cnt (W := (g1, T_laws_Room, cs) :: (g17, T_impl_Room, c4) :: (g24, T_impl_Room, c7) :: (g34, T_impl_Room, c10) :: (B4 ++ (B7 ++ B10))) (fun p => by simp only [cnt_app, cnt_cons, cnt_nil] at *; omega)
  have rdO : ∀ {hh : Heap} {W B : List Blk} {c : Array Value} {y : GRoom}, Mem h hh W → (∀ p, Sx.cnt p B ≤ Sx.cnt p W) → rRoom.ow B c.toList y → rRoom.rd hh c.toList y := fun M hc O => rRoom.look O (M.cnt hc) (List.Sublist.refl _)
  refine M.lda0 (.there .here) s4 (goM M (eq_Room_c (rdO M (fun p => by simp only [cnt_app, cnt_cons, cnt_nil] at *; omega) O10) (rdO M (fun p => by simp only [cnt_app, cnt_cons, cnt_nil] at *; omega) O4)) fun h13 M => as_b (bne_br rfl ?_))
  refine ffc_wide f10 fun r1 k1 => ffc_wide f4 fun r2 k2 => goM M (sameW_c k1 k2 _) fun h13 M => as_b (bne_br rfl (eqB ?_))
  have R7 : rRoom.rd h13 c7.toList x := rdO M (fun p => by simp only [cnt_app, cnt_cons, cnt_nil] at *; omega) O7
  have P7 : RdP rRoom h13 ⟨g24, 0, none⟩ x := M.rdp (.there (.there .here)) R7
  refine M.lda0 (.there (.there .here)) s7 (M.lda0 .here (rsz R0 rfl) (NewR.go (Mem.start h13) (to_Room_c (rRoom.ext M.ext R0) hw) fun h14 c14 B14 N O14 s14 => as_a (P7.pin rfl N.ext ?_)))
  have M := M.join N
  refine goM M (eq_Room_c (rRoom.ext N.ext R7) (rdO M (fun p => by simp only [cnt_app, cnt_cons, cnt_nil] at *; omega) O14)) fun h15 M => as_b (bne_br rfl ?_)
  have M := M.cnt (W := B7 ++ ((g1, T_laws_Room, cs) :: (g17, T_impl_Room, c4) :: (g24, T_impl_Room, c7) :: (g34, T_impl_Room, c10) :: (B4 ++ B10))) (fun p => by simp only [cnt_app, cnt_cons, cnt_nil] at *; omega)
  refine M.lda0 (Look.skip (.there (.there .here))) s7 (markM (mark_Room_c O7 M 1 hw (by omega) : CALL prg f_laws_markRoom #[.agg c7, .int .i64 (1 : Int)] _ _) fun h16 B16 M O16 => as_i (ge_br (by omega) ?_))
  refine M.lda0 (Look.skip (.there (.there (.there .here)))) s10 (M.lda0 (Look.skip (.there .here)) s4 (goM M (eq_Room_c (rdO M (fun p => by simp only [cnt_app, cnt_cons, cnt_nil] at *; omega) O10) (rdO M (fun p => by simp only [cnt_app, cnt_cons, cnt_nil] at *; omega) O4)) fun h17 M => as_b (bne_br rfl ?_)))
  refine ffc_wide f10 fun r1 k1 => ffc_wide f4 fun r2 k2 => goM M (sameW_c k1 k2 _) fun h17 M => as_b (bne_br rfl (eqB ?_))
  have M := M.cnt (W := B10 ++ ((g1, T_laws_Room, cs) :: (g17, T_impl_Room, c4) :: (g34, T_impl_Room, c10) :: B4)) (fun p => by simp only [cnt_app, cnt_cons, cnt_nil] at *; omega)
  refine M.lda0 (Look.skip (.there (.there .here))) s10 (markM (mark_Room_c O10 M 1 hw' (by omega) : CALL prg f_laws_markRoom #[.agg c10, .int .i64 (1 : Int)] _ _) fun h18 B18 M O18 => as_i ?_)
  refine M.lda0 (Look.skip (.there (.there .here))) s10 (goM M (held_Room_c 1 (rRoom.look O18 M (List.sublist_append_left _ _)) hw' (by omega) : CALL prg f_laws_heldRoom #[.agg c10, .int .i64 (1 : Int)] _ _) fun h19 M => as_i (ge_br (by omega) (eqB ?_)))
  refine M.lda0 (Look.skip .here) (rsz R0 rfl) (NewR.go M (to_Room_c (rRoom.ext M.ext R0) hw) fun h20 c20 B20 M O20 s20 => as_a ?_)
  refine TriR.go M (impl_StepRoom_c (rRoom.look O20 M (List.sublist_append_left _ _)) hx) fun h21 c21 B21 v21 M O21 s21 f21 => tup3 (as_a (as_f (as_i (M.alc fun g77 h22 x22 M => M.sta0 .here s21 (rRoom.oone O21) rfl .here fun h23 M => M.lda0 .here s21 ?_))))
  have M := M.cnt (W := (g17, T_impl_Room, c4) :: (g34, T_impl_Room, c10) :: (B21 ++ (B18 ++ B4))) (fun p => by simp only [cnt_app, cnt_cons, cnt_nil] at *; omega)
  refine M.lda0 .here s4 (goM M (eq_Room_c (rdO M (fun p => by simp only [cnt_app, cnt_cons, cnt_nil] at *; omega) O21) (rdO M (fun p => by simp only [cnt_app, cnt_cons, cnt_nil] at *; omega) O4)) fun h24 M => as_b (bne_br rfl ?_))
  refine ffc_wide f21 fun r1 k1 => ffc_wide f4 fun r2 k2 => goM M (sameW_c k1 k2 _) fun h24 M => as_b (bne_br rfl (eqB ?_))
  exact M.lda0 (.there .here) s10 (goM M (held_Room_c 1 (rdO M (fun p => by simp only [cnt_app, cnt_cons, cnt_nil] at *; omega) O18) hw' (by omega) : CALL prg f_laws_heldRoom #[.agg c10, .int .i64 (1 : Int)] _ _) fun h25 M => as_i (ge_br (by omega) (eqB ⟨rfl, M.ext⟩)))
end
end Go.Sx
