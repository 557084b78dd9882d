/- The law FnExactWithTaps, as the program tells it. -/
import Derived.Test.YtdhhfilfcpljoaaLw3
import Derived.Test.YtdhhfilfcpljoaaLw2
set_option linter.unusedVariables false
set_option linter.unusedSimpArgs false
namespace Go.Sx
open Go.Proofs
set_option maxRecDepth 100000

theorem markS {α : Type} {e : Nat} {r : Rep α} {P : Program} {f : FuncId} {args : Array Value} {xs : List α} {v : Value} {hb h : Heap} {L : List Blk} {b : Option Addr} {l c : Nat} {K : Value → Heap → Prop}
    (k : CALL P f args (fun u h' => u = v ∧ ∃ B', SlO e r B' b l c xs ∧ Mem hb h' (B' ++ L)) h) (H : ∀ h' B', Mem hb h' (B' ++ L) → SlO e r B' b l c xs → K v h') : CALL P f args K h :=
  k.mono fun u h' ⟨e, B', O, N⟩ => by subst e; exact H h' B' N O
/-- A slice answered, new. -/
theorem goS {α : Type} {e : Nat} {r : Rep α} {P : Program} {f : FuncId} {args : Array Value} {xs : List α} {hb h : Heap} {L : List Blk} {l : Nat} {K : Value → Heap → Prop} (M : Mem hb h L)
    (k : CALL P f args (fun u h' => ∃ b' c' B, u = .slice b' l c' ∧ SlO e r B b' l c' xs ∧ Mem h h' B) h) (H : ∀ h' b' c' B, Mem hb h' (B ++ L) → SlO e r B b' l c' xs → K (.slice b' l c') h') : CALL P f args K h :=
  k.mono fun u h' ⟨b', c', B, e, O, N⟩ => by subst e; exact H h' b' c' B (M.join N) O
theorem subW_le {left w : Nat} (h : decide (subW left w < 0) = false) : w ≤ left := by
  unfold subW at h
  split at h
  · simp at h
  · omega
section
variable {h : Heap} {x : GRoom} {n : Int} {ts : List GTap}
theorem w_ok {x : GRoom} (h : x.ok = true) (hC : x.Combs.length = 2) (hL : x.Loops.length = 4) : w_Ring x.Early ≤ 1024 ∧ w_TapS x.Taps ≤ 6 ∧ w_CombA2 x.Combs ≤ 2048 ∧ w_RingA4 x.Loops ≤ 4096 := by
  rw [room_ok] at h
  simp only [Bool.and_eq_true, decide_eq_true_eq, List.all_eq_true] at h
  obtain ⟨⟨⟨⟨⟨⟨⟨⟨h1, h2⟩, h3⟩, h4⟩, h5⟩, h6⟩, h7⟩, h8⟩, h9⟩ := h
  have k : ∀ r : GRing, r.okf = true → w_Ring r ≤ 1024 := fun r hr => by
    unfold GRing.okf at hr
    rw [Bool.and_eq_true] at hr
    have := at_lt hr.1
    unfold w_Ring w_Float32S
    omega
  have k2 : ∀ c : GComb, c.ok = true → w_Comb c ≤ 1024 := fun c hc => by
    unfold GComb.ok at hc
    rw [Bool.and_eq_true] at hc
    exact k _ hc.1
  obtain ⟨a, b, e1⟩ := is2 hC
  obtain ⟨c, d, e, f, e2⟩ := is4 hL
  rw [e1] at h3 ⊢
  rw [e2] at h4 ⊢
  have a1 := k2 a (h3 a (by simp)); have a2 := k2 b (h3 b (by simp))
  have b1 := k c (h4 c (by simp)); have b2 := k d (h4 d (by simp)); have b3 := k e (h4 e (by simp)); have b4 := k f (h4 f (by simp))
  refine ⟨k _ h1, h2, ?_, ?_⟩
  · show nL w_Comb [a, b] ≤ 2048; simp only [nL]; omega
  · show nL w_Ring [c, d, e, f] ≤ 4096; simp only [nL]; omega
theorem w_withTaps (hC : x.Combs.length = 2) (hL : x.Loops.length = 4) : w_Room (x.withTaps n ts).1 ≤ 1048576 := by
  unfold GRoom.withTaps
  split
  · next hok =>
    split
    · split
      · next h2 h3 =>
        rw [Bool.and_eq_true] at h3
        have hr := h3.1
        unfold inR at hr
        simp only [Bool.and_eq_true, decide_eq_true_eq] at hr
        obtain ⟨k1, k2, k3, k4⟩ := w_ok hok hC hL
        simp only [w_Room, w_TapS, w_Ring, w_Float32S, silence, List.length_replicate] at *
        omega
      · show w_Room z_Room ≤ 1048576; decide
    · show w_Room z_Room ≤ 1048576; decide
  · show w_Room z_Room ≤ 1048576; decide
theorem FnExactWithTaps_c {cs : Array Value} {b : Option Addr} {l c : Nat} (R0 : rRoom.rd h cs.toList x) (S0 : SlR rTap h b l c ts) :
    CALL prg f_laws_FnExactWithTaps #[.agg cs, .int .i64 n, .slice b l c] (fun u h' => u = .bool true ∧ Ext h h') h := by
  refine laws_FnExactWithTaps.call ((Mem.start h).alc fun g1 h1 x1 M => M.lda0 .here (rsz R0 rfl) (goM M (sz_Room_c (rRoom.ext M.ext R0) 1048576 (by omega) : CALL prg f_laws_szRoom #[.agg cs, .int .i64 (1048576 : Int)] _ _) fun h2 M => as_i (br (fun hb => ⟨rfl, M.ext⟩) fun hb => ?_)))
  have hw1 := subW_le hb
  rw [subW_pos hw1]
  refine goM M (sz_TapS_c (S0.ext M.ext) (1048576 - w_Room x) (by omega)) fun h3 M => as_i (br (fun hb => ⟨rfl, M.ext⟩) fun hb => ?_)
  have hw2 := subW_le hb
  have hw : w_Room x ≤ 1048576 := hw1
  have hwt : w_TapS ts ≤ 1048576 := by omega
  have hw' : w_Room (x.withTaps n ts).1 ≤ 1048576 := w_withTaps (room_lens R0).1 (room_lens R0).2
  have hn := nw_Room x
  have hnt := nw_TapS ts
  have hn' := nw_Room (x.withTaps n ts).1
  refine M.lda0 .here (rsz R0 rfl) (NewR.go M (to_Room_c (rRoom.ext M.ext R0) hw) fun h3 c3 B3 M O3 s3 => as_a ?_)
  refine goS M (to_TapS_c (S0.ext M.ext) hwt) fun h3' b3 k3 T3 M S3 => as_l ?_
  have rdO : ∀ {hh : Heap} {W B : List Blk} {c : Array Value} {y : GRoom}, Mem h hh W → (∀ p, Sx.cnt p B ≤ Sx.cnt p W) → rRoom.ow B c.toList y → rRoom.rd hh c.toList y := fun M hc O => rRoom.look O (M.cnt hc) (List.Sublist.refl _)
  have rdS : ∀ {hh : Heap} {W B : List Blk} {b : Option Addr} {l c : Nat} {y : List GTap}, Mem h hh W → (∀ p, Sx.cnt p B ≤ Sx.cnt p W) → SlO T_impl_Tap rTap B b l c y → SlR rTap hh b l c y := fun M hc O => O.look (M.cnt hc) (List.Sublist.refl _)
  refine PairR.go M (spec_WithTaps_c (n := n) (rdO M (fun p => by simp only [cnt_app, cnt_cons, cnt_nil] at *; omega) O3) (rdS M (fun p => by simp only [cnt_app, cnt_cons, cnt_nil] at *; omega) S3)) fun h4 c4 B4 M O4 s4 => tup2 (as_a (as_i (M.alc fun g17 h5 x5 M => M.sta0 .here s4 (rRoom.oone O4) rfl .here fun h6 M => ?_)))
  have M := M.cnt (W := (g1, T_laws_Room, cs) :: (g17, T_impl_Room, c4) :: B4) (fun p => by simp only [cnt_app, cnt_cons, cnt_nil] at *; omega)
  refine M.lda0 .here (rsz R0 rfl) (NewR.go M (to_Room_c (rRoom.ext M.ext R0) hw) fun h7 c7 B7 M O7 s7 => as_a (M.alc fun g24 h8 x8 M => M.sta0 .here s7 (rRoom.oone O7) rfl .here fun h9 M => ?_))
  refine goS M (to_TapS_c (S0.ext M.ext) hwt) fun h9' b7 k7 T7 M S7 => as_l (M.lda0 (Look.skip .here) s7 ?_)
  refine PairR.go M (impl_WithTaps_c (n := n) (rdO M (fun p => by simp only [cnt_app, cnt_cons, cnt_nil] at *; omega) O7) (rdS M (fun p => by simp only [cnt_app, cnt_cons, cnt_nil] at *; omega) S7)) fun h10 c10 B10 M O10 s10 => tup2 (as_a (as_i (M.alc fun g34 h11 x11 M => M.sta0 .here s10 (rRoom.oone O10) rfl .here fun h12 M => M.lda0 .here s10 ?_)))
  have M := M.cnt (W := (g1, T_laws_Room, cs) :: (g17, T_impl_Room, c4) :: (g24, T_impl_Room, c7) :: (g34, T_impl_Room, c10) :: (B4 ++ (B7 ++ (T7 ++ B10)))) (fun p => by simp only [cnt_app, cnt_cons, cnt_nil] at *; omega)
  refine M.lda0 (.there .here) s4 (goM M (eq_Room_c (rdO M (fun p => by simp only [cnt_app, cnt_cons, cnt_nil] at *; omega) O10) (rdO M (fun p => by simp only [cnt_app, cnt_cons, cnt_nil] at *; omega) O4)) fun h13 M => as_b (bne_br rfl (eqB ?_)))
  have R7 : rRoom.rd h13 c7.toList x := rdO M (fun p => by simp only [cnt_app, cnt_cons, cnt_nil] at *; omega) O7
  have P7 : RdP rRoom h13 ⟨g24, 0, none⟩ x := M.rdp (.there (.there .here)) R7
  refine M.lda0 (.there (.there .here)) s7 (M.lda0 .here (rsz R0 rfl) (NewR.go (Mem.start h13) (to_Room_c (rRoom.ext M.ext R0) hw) fun h14 c14 B14 N O14 s14 => as_a (P7.pin rfl N.ext ?_)))
  have M := M.join N
  refine goM M (eq_Room_c (rRoom.ext N.ext R7) (rdO M (fun p => by simp only [cnt_app, cnt_cons, cnt_nil] at *; omega) O14)) fun h15 M => as_b (bne_br rfl ?_)
  refine goS M (to_TapS_c (S0.ext M.ext) hwt) fun h15' b15 k15 T15 M S15 => as_l ?_
  refine goM M (eq_TapS_c (rdS M (fun p => by simp only [cnt_app, cnt_cons, cnt_nil] at *; omega) S7) (rdS M (fun p => by simp only [cnt_app, cnt_cons, cnt_nil] at *; omega) S15)) fun h15 M => as_b (bne_br rfl ?_)
  have M := M.cnt (W := B7 ++ ((g1, T_laws_Room, cs) :: (g17, T_impl_Room, c4) :: (g24, T_impl_Room, c7) :: (g34, T_impl_Room, c10) :: (T7 ++ (B4 ++ B10)))) (fun p => by simp only [cnt_app, cnt_cons, cnt_nil] at *; omega)
  refine M.lda0 (Look.skip (.there (.there .here))) s7 (markM (mark_Room_c O7 M 1 hw (by omega) : CALL prg f_laws_markRoom #[.agg c7, .int .i64 (1 : Int)] _ _) fun h16 B16 M O16 => as_i ?_)
  have M := M.cnt (W := T7 ++ ((g1, T_laws_Room, cs) :: (g17, T_impl_Room, c4) :: (g34, T_impl_Room, c10) :: (B4 ++ B10))) (fun p => by simp only [cnt_app, cnt_cons, cnt_nil] at *; omega)
  refine markS (mark_TapS_c S7 M _ hwt (by omega)) fun h16 T16 M S16 => as_i (ge_br (by omega) ?_)
  refine M.lda0 (Look.skip (.there (.there .here))) s10 (M.lda0 (Look.skip (.there .here)) s4 (goM M (eq_Room_c (rdO M (fun p => by simp only [cnt_app, cnt_cons, cnt_nil] at *; omega) O10) (rdO M (fun p => by simp only [cnt_app, cnt_cons, cnt_nil] at *; omega) O4)) fun h17 M => as_b (bne_br rfl (eqB ?_))))
  have M := M.cnt (W := B10 ++ ((g1, T_laws_Room, cs) :: (g17, T_impl_Room, c4) :: (g34, T_impl_Room, c10) :: B4)) (fun p => by simp only [cnt_app, cnt_cons, cnt_nil] at *; omega)
  refine M.lda0 (Look.skip (.there (.there .here))) s10 (markM (mark_Room_c O10 M 1 hw' (by omega) : CALL prg f_laws_markRoom #[.agg c10, .int .i64 (1 : Int)] _ _) fun h18 B18 M O18 => as_i ?_)
  refine M.lda0 (Look.skip (.there (.there .here))) s10 (goM M (held_Room_c 1 (rRoom.look O18 M (List.sublist_append_left _ _)) hw' (by omega) : CALL prg f_laws_heldRoom #[.agg c10, .int .i64 (1 : Int)] _ _) fun h19 M => as_i (ge_br (by omega) (eqB ?_)))
  refine M.lda0 (Look.skip .here) (rsz R0 rfl) (NewR.go M (to_Room_c (rRoom.ext M.ext R0) hw) fun h20 c20 B20 M O20 s20 => as_a ?_)
  refine goS M (to_TapS_c (S0.ext M.ext) hwt) fun h20 b20 k20 T20 M S20 => as_l ?_
  refine PairR.go M (impl_WithTaps_c (n := n) (rdO M (fun p => by simp only [cnt_app, cnt_cons, cnt_nil] at *; omega) O20) (rdS M (fun p => by simp only [cnt_app, cnt_cons, cnt_nil] at *; omega) S20)) fun h21 c21 B21 M O21 s21 => tup2 (as_a (as_i (M.alc fun g77 h22 x22 M => M.sta0 .here s21 (rRoom.oone O21) rfl .here fun h23 M => M.lda0 .here s21 ?_)))
  have M := M.cnt (W := (g17, T_impl_Room, c4) :: (g34, T_impl_Room, c10) :: (B21 ++ (B18 ++ B4))) (fun p => by simp only [cnt_app, cnt_cons, cnt_nil] at *; omega)
  refine M.lda0 .here s4 (goM M (eq_Room_c (rdO M (fun p => by simp only [cnt_app, cnt_cons, cnt_nil] at *; omega) O21) (rdO M (fun p => by simp only [cnt_app, cnt_cons, cnt_nil] at *; omega) O4)) fun h24 M => as_b (bne_br rfl (eqB ?_)))
  exact M.lda0 (.there .here) s10 (goM M (held_Room_c 1 (rdO M (fun p => by simp only [cnt_app, cnt_cons, cnt_nil] at *; omega) O18) hw' (by omega) : CALL prg f_laws_heldRoom #[.agg c10, .int .i64 (1 : Int)] _ _) fun h25 M => as_i (ge_br (by omega) (eqB ⟨rfl, M.ext⟩)))
end
end Go.Sx
