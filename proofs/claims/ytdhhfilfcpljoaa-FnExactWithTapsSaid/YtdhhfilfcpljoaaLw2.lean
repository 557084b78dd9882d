/- The law FnExactMuteRoom, as the program tells it. -/
import Derived.Test.YtdhhfilfcpljoaaLw1
import Derived.Test.YtdhhfilfcpljoaaLh2
set_option linter.unusedVariables false
set_option linter.unusedSimpArgs false
namespace Go.Sx
open Go.Proofs
set_option maxRecDepth 100000

theorem PairR.go {α : Type} {r : Rep α} {P : Program} {f : FuncId} {args : Array Value} {a : α} {code : Int} {hb h : Heap} {L : List Blk} {K : Value → Heap → Prop} (M : Mem hb h L) (c : CALL P f args (fun u h' => PairR r h h' u a code) h)
    (H : ∀ h' cs B, Mem hb h' (B ++ L) → r.ow B cs.toList a → cs.size = r.sz → K (.tuple ⟨[.agg cs, .int .i64 code]⟩) h') : CALL P f args K h :=
  c.mono fun u h' ⟨cs, B, e, O, N⟩ => by subst e; exact H h' cs B (M.join N) O (by simpa using r.olen O)
/-- A value marked, its blocks among the others. -/
theorem markM {α : Type} {r : Rep α} {P : Program} {f : FuncId} {args : Array Value} {b : α} {v : Value} {hb h : Heap} {L : List Blk} {cs : Array Value} {K : Value → Heap → Prop}
    (c : CALL P f args (fun u h' => u = v ∧ ∃ B', r.ow B' cs.toList b ∧ Mem hb h' (B' ++ L)) h) (H : ∀ h' B', Mem hb h' (B' ++ L) → r.ow B' cs.toList b → K v h') : CALL P f args K h :=
  c.mono fun u h' ⟨e, B', O, N⟩ => by subst e; exact H h' B' N O
theorem eqB {a : Int} {p q : Prop} (H : q) : BIF (a != a) p q := by
  rw [show (a != a) = false by simp]; exact H
theorem bne_br {b : Bool} {p q : Prop} (hb : b = true) (H : q) : BIF (!b) p q := by
  subst hb; exact H
theorem ge_br {a : Int} {p q : Prop} (h : 0 ≤ a) (H : q) : BIF (decide (a < 0)) p q := by
  rw [show decide (a < 0) = false by simp; omega]; exact H
section
variable {h : Heap}
theorem w_mute (r : GRing) : w_Ring r.mute = w_Ring r := by unfold w_Ring w_Float32S GRing.mute; simp
theorem w_muted {x : GRoom} (hC : x.Combs.length = 2) (hL : x.Loops.length = 4) (hw : w_Room x ≤ 1048576) : w_Room x.muted.1 ≤ 1048576 := by
  unfold GRoom.muted
  split
  · show w_Room x.mute ≤ 1048576
    obtain ⟨a, b, e1⟩ := is2 hC
    obtain ⟨c, d, e, f, e2⟩ := is4 hL
    obtain ⟨E, T, C, Lo, D, G, dr, we⟩ := x
    subst e1 e2
    simp only [w_Room, GRoom.mute, w_CombA2, w_RingA4, nL, List.map, w_Comb, w_mute] at *
    omega
  · show w_Room z_Room ≤ 1048576
    decide
theorem room_lens {cs : List Value} {x : GRoom} (R : rRoom.rd h cs x) : x.Combs.length = 2 ∧ x.Loops.length = 4 := by
  obtain ⟨_, _, _, _, _, _, _, _, _, _, _, RC, _, _, _, RL, _⟩ := R
  exact ⟨RC.1, RL.1⟩
theorem FnExactMuteRoom_c {cs : Array Value} {x : GRoom} (R0 : rRoom.rd h cs.toList x) : CALL prg f_laws_FnExactMuteRoom #[.agg cs] (fun u h' => u = .bool true ∧ Ext h h') h := by
  obtain ⟨hC, hL⟩ := room_lens R0
  refine laws_FnExactMuteRoom.call ((Mem.start h).alc fun g1 h1 x1 M => M.lda0 .here (rsz R0 rfl) (goM M (sz_Room_c (rRoom.ext M.ext R0) 1048576 (by omega) : CALL prg f_laws_szRoom #[.agg cs, .int .i64 (1048576 : Int)] _ _) fun h2 M => as_i (br (fun hb => ⟨rfl, M.ext⟩) fun hb => ?_)))
  have hw : w_Room x ≤ 1048576 := by
    unfold subW at hb
    split at hb
    · simp at hb
    · omega
  have hw' := w_muted hC hL hw
  have hn := nw_Room x
  have hn' := nw_Room x.muted.1
  refine M.lda0 .here (rsz R0 rfl) (NewR.go M (to_Room_c (rRoom.ext M.ext R0) hw) fun h3 c3 B3 M O3 s3 => as_a ?_)
  refine PairR.go M (spec_MuteRoom_c (rRoom.look O3 M (List.sublist_append_left _ _))) fun h4 c4 B4 M O4 s4 => tup2 (as_a (as_i (M.alc fun g17 h5 x5 M => M.sta0 .here s4 (rRoom.oone O4) rfl .here fun h6 M => ?_)))
  have M := M.cnt (W := (g1, T_laws_Room, cs) :: (g17, T_impl_Room, c4) :: B4) (fun p => by simp only [cnt_app, cnt_cons, cnt_nil] at *; omega)
  refine M.lda0 .here (rsz R0 rfl) (NewR.go M (to_Room_c (rRoom.ext M.ext R0) hw) fun h7 c7 B7 M O7 s7 => as_a (M.alc fun g24 h8 x8 M => M.sta0 .here s7 (rRoom.oone O7) rfl .here fun h9 M => M.lda0 .here s7 ?_))
  refine PairR.go M (impl_MuteRoom_c (rRoom.look O7 M ((List.sublist_append_left _ _).trans (List.sublist_cons_self _ _)))) fun h10 c10 B10 M O10 s10 => tup2 (as_a (as_i (M.alc fun g34 h11 x11 M => M.sta0 .here s10 (rRoom.oone O10) rfl .here fun h12 M => M.lda0 .here s10 ?_)))
  have M := M.cnt (W := (g1, T_laws_Room, cs) :: (g17, T_impl_Room, c4) :: (g24, T_impl_Room, c7) :: (g34, T_impl_Room, c10) :: (B4 ++ (B7 ++ B10))) (fun p => by simp only [cnt_app, cnt_cons, cnt_nil] at *; omega)
  have rdO : ∀ {hh : Heap} {W B : List Blk} {c : Array Value} {y : GRoom}, Mem h hh W → (∀ p, Sx.cnt p B ≤ Sx.cnt p W) → rRoom.ow B c.toList y → rRoom.rd hh c.toList y := fun M hc O => rRoom.look O (M.cnt hc) (List.Sublist.refl _)
  refine M.lda0 (.there .here) s4 (goM M (eq_Room_c (rdO M (fun p => by simp only [cnt_app, cnt_cons, cnt_nil] at *; omega) O10) (rdO M (fun p => by simp only [cnt_app, cnt_cons, cnt_nil] at *; omega) O4)) fun h13 M => as_b (bne_br rfl (eqB ?_)))
  have R7 : rRoom.rd h13 c7.toList x := rdO M (fun p => by simp only [cnt_app, cnt_cons, cnt_nil] at *; omega) O7
  have P7 : RdP rRoom h13 ⟨g24, 0, none⟩ x := M.rdp (.there (.there .here)) R7
  refine M.lda0 (.there (.there .here)) s7 (M.lda0 .here (rsz R0 rfl) (NewR.go (Mem.start h13) (to_Room_c (rRoom.ext M.ext R0) hw) fun h14 c14 B14 N O14 s14 => as_a (P7.pin rfl N.ext ?_)))
  have M := M.join N
  refine goM M (eq_Room_c (rRoom.ext N.ext R7) (rdO M (fun p => by simp only [cnt_app, cnt_cons, cnt_nil] at *; omega) O14)) fun h15 M => as_b (bne_br rfl ?_)
  have M := M.cnt (W := B7 ++ ((g1, T_laws_Room, cs) :: (g17, T_impl_Room, c4) :: (g24, T_impl_Room, c7) :: (g34, T_impl_Room, c10) :: (B4 ++ B10))) (fun p => by simp only [cnt_app, cnt_cons, cnt_nil] at *; omega)
  refine M.lda0 (Look.skip (.there (.there .here))) s7 (markM (mark_Room_c O7 M 1 hw (by omega) : CALL prg f_laws_markRoom #[.agg c7, .int .i64 (1 : Int)] _ _) fun h16 B16 M O16 => as_i (ge_br (by omega) ?_))
  refine M.lda0 (Look.skip (.there (.there (.there .here)))) s10 (M.lda0 (Look.skip (.there .here)) s4 (goM M (eq_Room_c (rdO M (fun p => by simp only [cnt_app, cnt_cons, cnt_nil] at *; omega) O10) (rdO M (fun p => by simp only [cnt_app, cnt_cons, cnt_nil] at *; omega) O4)) fun h17 M => as_b (bne_br rfl (eqB ?_))))
  have M := M.cnt (W := B10 ++ ((g1, T_laws_Room, cs) :: (g17, T_impl_Room, c4) :: (g34, T_impl_Room, c10) :: B4)) (fun p => by simp only [cnt_app, cnt_cons, cnt_nil] at *; omega)
  refine M.lda0 (Look.skip (.there (.there .here))) s10 (markM (mark_Room_c O10 M 1 hw' (by omega) : CALL prg f_laws_markRoom #[.agg c10, .int .i64 (1 : Int)] _ _) fun h18 B18 M O18 => as_i ?_)
  refine M.lda0 (Look.skip (.there (.there .here))) s10 (goM M (held_Room_c 1 (rRoom.look O18 M (List.sublist_append_left _ _)) hw' (by omega) : CALL prg f_laws_heldRoom #[.agg c10, .int .i64 (1 : Int)] _ _) fun h19 M => as_i (ge_br (by omega) (eqB ?_)))
  refine M.lda0 (Look.skip .here) (rsz R0 rfl) (NewR.go M (to_Room_c (rRoom.ext M.ext R0) hw) fun h20 c20 B20 M O20 s20 => as_a ?_)
  refine PairR.go M (impl_MuteRoom_c (rRoom.look O20 M (List.sublist_append_left _ _))) fun h21 c21 B21 M O21 s21 => tup2 (as_a (as_i (M.alc fun g77 h22 x22 M => M.sta0 .here s21 (rRoom.oone O21) rfl .here fun h23 M => M.lda0 .here s21 ?_)))
  have M := M.cnt (W := (g17, T_impl_Room, c4) :: (g34, T_impl_Room, c10) :: (B21 ++ (B18 ++ B4))) (fun p => by simp only [cnt_app, cnt_cons, cnt_nil] at *; omega)
  refine M.lda0 .here s4 (goM M (eq_Room_c (rdO M (fun p => by simp only [cnt_app, cnt_cons, cnt_nil] at *; omega) O21) (rdO M (fun p => by simp only [cnt_app, cnt_cons, cnt_nil] at *; omega) O4)) fun h24 M => as_b (bne_br rfl (eqB ?_)))
  refine M.lda0 (.there .here) s10 (goM M (held_Room_c 1 (rdO M (fun p => by simp only [cnt_app, cnt_cons, cnt_nil] at *; omega) O18) hw' (by omega) : CALL prg f_laws_heldRoom #[.agg c10, .int .i64 (1 : Int)] _ _) fun h25 M => as_i (ge_br (by omega) (eqB ⟨rfl, M.ext⟩)))
end
end Go.Sx
