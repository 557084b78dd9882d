/- The law FnExactNewPlayer, as the program tells it. -/
import Derived.Test.YthhepeklpgefkaaGreatDoorLk39
import Derived.Test.YthhepeklpgefkaaGreatDoorLh5
import Derived.Test.YthhepeklpgefkaaGreatDoorLh7
import Derived.Test.YthhepeklpgefkaaGreatDoorLh0
import Derived.Test.YthhepeklpgefkaaGreatDoorLr6
set_option linter.unusedVariables false
set_option linter.unusedSimpArgs false
namespace Go.Sx
open Go.Proofs
set_option maxRecDepth 100000
set_option maxHeartbeats 1000000

theorem nL_small {α : Type} [Inhabited α] {n : α → Nat} {m : Nat} : ∀ {xs : List α}, (∀ i, i < xs.length → n xs[i]! ≤ m) → nL n xs ≤ xs.length * m
  | [], _ => by simp [nL]
  | x :: xs, h => by
    have h1 := h 0 (by simp)
    have h2 := nL_small (n := n) (m := m) (xs := xs) fun i hi => by have := h (i + 1) (by simpa using hi); simpa using this
    have h3 : n x ≤ m := by simpa using h1
    simp only [nL, List.length_cons, Nat.add_mul]; omega
theorem w_small {s : GScore} (h : s.ok = true) : w_Score s ≤ 1000 := by
  obtain ⟨z1, z2, z3⟩ := score_small h
  have hi : instOk s.Instruments = true := by
    unfold GScore.ok at h
    simp only [Bool.and_eq_true] at h
    exact h.1.2.2
  have hn : ∀ i, i < s.Instruments.length → w_Instrument s.Instruments[i]! ≤ 12 := fun i hi' => by
    have h1 := List.all_eq_true.1 hi i (List.mem_range.2 hi')
    unfold instAt at h1
    rw [Bool.and_eq_true] at h1
    have h2 := h1.1
    unfold GInstrument.ok nameOk at h2
    simp only [Bool.and_eq_true, inR, decide_eq_true_eq] at h2
    have h3 := h2.1.1.1.2
    show s.Instruments[i]!.Name.size ≤ 12
    omega
  have h4 := nL_small hn
  unfold w_Score w_InstrumentS w_EventS w_Tuning w_Float32S
  omega
theorem w_newPlayer {s : GScore} {n : Int} : w_Player (s.newPlayer n).1 ≤ 1048576 := by
  have z : w_Player z_Player ≤ 1048576 := by decide
  unfold GScore.newPlayer
  split
  · next h =>
    split
    · next hn =>
      have hn2 : n ≤ 6 := by simp only [inR, Bool.and_eq_true, decide_eq_true_eq] at hn; omega
      have h1 := w_small h
      have hv : w_VoiceS (List.replicate n.toNat freeV) ≤ 6 := by
        unfold w_VoiceS
        have := nL_small (n := w_Voice) (m := 0) (xs := List.replicate n.toNat freeV) fun i hi => by
          rw [getElem!_pos _ i hi, List.getElem_replicate]; decide
        rw [List.length_replicate] at *
        omega
      show w_Score s + w_VoiceS (List.replicate n.toNat freeV) ≤ _
      omega
    · exact z
  · exact z
section
variable {h : Heap}
theorem FnExactNewPlayer_c {cs : Array Value} {x : GScore} {n : Int} (R0 : rScore.rd h cs.toList x) : CALL prg f_laws_FnExactNewPlayer #[.agg cs, .int .i64 n] (fun u h' => u = .bool true ∧ Ext h h') h := by
  refine laws_FnExactNewPlayer.call ((Mem.start h).alc fun g1 h1 x1 M => M.lda0 .here (rsz R0 rfl) (goM M (sz_Score_c (rScore.ext M.ext R0) 1048576 (by omega) : CALL prg f_laws_szScore #[.agg cs, .int .i64 (1048576 : Int)] _ _) fun h2 M => as_i (br (fun hb => ⟨rfl, M.ext⟩) fun hb => ?_)))
  have hw : w_Score x ≤ 1048576 := by
    unfold subW at hb
    split at hb
    · simp at hb
    · omega
  have hw' : w_Player (x.newPlayer n).1 ≤ 1048576 := w_newPlayer
  have hn := nw_Score x
  have hn' := nw_Player (x.newPlayer n).1
  refine M.lda0 .here (rsz R0 rfl) (NewR.go M (to_Score_c (rScore.ext M.ext R0) hw) fun h3 c3 B3 M O3 s3 => as_a ?_)
  refine PairR.go M (spec_NewPlayer_c (rScore.look O3 M (List.sublist_append_left _ _))) fun h4 c4 B4 M O4 s4 => tup2 (as_a (as_i (M.alc fun g17 h5 x5 M => M.sta0 .here s4 (rPlayer.oone O4) rfl .here fun h6 M => ?_)))
  have M := M.cnt (W := (g1, T_laws_Score, cs) :: (g17, T_impl_Player, c4) :: B4) (fun p => by simp only [cnt_app, cnt_cons, cnt_nil] at *; omega)
  refine M.lda0 .here (rsz R0 rfl) (NewR.go M (to_Score_c (rScore.ext M.ext R0) hw) fun h7 c7 B7 M O7 s7 => as_a (M.alc fun g24 h8 x8 M => M.sta0 .here s7 (rScore.oone O7) rfl .here fun h9 M => M.lda0 .here s7 ?_))
  refine PairR.go M (impl_NewPlayer_c (rScore.look O7 M ((List.sublist_append_left _ _).trans (List.sublist_cons_self _ _)))) fun h10 c10 B10 M O10 s10 => tup2 (as_a (as_i (M.alc fun g34 h11 x11 M => M.sta0 .here s10 (rPlayer.oone O10) rfl .here fun h12 M => M.lda0 .here s10 ?_)))
  have M := M.cnt (W := (g1, T_laws_Score, cs) :: (g17, T_impl_Player, c4) :: (g24, T_impl_Score, c7) :: (g34, T_impl_Player, c10) :: (B4 ++ (B7 ++ B10))) (fun p => by simp only [cnt_app, cnt_cons, cnt_nil] at *; omega)
  have rdA : ∀ {hh : Heap} {W B : List Blk} {c : Array Value} {y : GScore}, Mem h hh W → (∀ p, Sx.cnt p B ≤ Sx.cnt p W) → rScore.ow B c.toList y → rScore.rd hh c.toList y := fun M hc O => rScore.look O (M.cnt hc) (List.Sublist.refl _)
  have rdR : ∀ {hh : Heap} {W B : List Blk} {c : Array Value} {y : GPlayer}, Mem h hh W → (∀ p, Sx.cnt p B ≤ Sx.cnt p W) → rPlayer.ow B c.toList y → rPlayer.rd hh c.toList y := fun M hc O => rPlayer.look O (M.cnt hc) (List.Sublist.refl _)
  refine M.lda0 (.there .here) s4 (goM M (eq_Player_c (rdR M (fun p => by simp only [cnt_app, cnt_cons, cnt_nil] at *; omega) O10) (rdR M (fun p => by simp only [cnt_app, cnt_cons, cnt_nil] at *; omega) O4)) fun h13 M => as_b (bne_br rfl (eqB ?_)))
  have R7 : rScore.rd h13 c7.toList x := rdA M (fun p => by simp only [cnt_app, cnt_cons, cnt_nil] at *; omega) O7
  have P7 : RdP rScore h13 ⟨g24, 0, none⟩ x := M.rdp (.there (.there .here)) R7
  refine M.lda0 (.there (.there .here)) s7 (M.lda0 .here (rsz R0 rfl) (NewR.go (Mem.start h13) (to_Score_c (rScore.ext M.ext R0) hw) fun h14 c14 B14 N O14 s14 => as_a (P7.pin rfl N.ext ?_)))
  have M := M.join N
  refine goM M (eq_Score_c (rScore.ext N.ext R7) (rdA M (fun p => by simp only [cnt_app, cnt_cons, cnt_nil] at *; omega) O14)) fun h15 M => as_b (bne_br rfl ?_)
  have M := M.cnt (W := B7 ++ ((g1, T_laws_Score, cs) :: (g17, T_impl_Player, c4) :: (g24, T_impl_Score, c7) :: (g34, T_impl_Player, c10) :: (B4 ++ B10))) (fun p => by simp only [cnt_app, cnt_cons, cnt_nil] at *; omega)
  refine M.lda0 (Look.skip (.there (.there .here))) s7 (markM (mark_Score_c O7 M 1 hw (by omega) : CALL prg f_laws_markScore #[.agg c7, .int .i64 (1 : Int)] _ _) fun h16 B16 M O16 => as_i (ge_br (by omega) ?_))
  refine M.lda0 (Look.skip (.there (.there (.there .here)))) s10 (M.lda0 (Look.skip (.there .here)) s4 (goM M (eq_Player_c (rdR M (fun p => by simp only [cnt_app, cnt_cons, cnt_nil] at *; omega) O10) (rdR M (fun p => by simp only [cnt_app, cnt_cons, cnt_nil] at *; omega) O4)) fun h17 M => as_b (bne_br rfl (eqB ?_))))
  have M := M.cnt (W := B10 ++ ((g1, T_laws_Score, cs) :: (g17, T_impl_Player, c4) :: (g34, T_impl_Player, c10) :: B4)) (fun p => by simp only [cnt_app, cnt_cons, cnt_nil] at *; omega)
  refine M.lda0 (Look.skip (.there (.there .here))) s10 (markM (mark_Player_c O10 M 1 hw' (by omega) : CALL prg f_laws_markPlayer #[.agg c10, .int .i64 (1 : Int)] _ _) fun h18 B18 M O18 => as_i ?_)
  refine M.lda0 (Look.skip (.there (.there .here))) s10 (goM M (held_Player_c 1 (rPlayer.look O18 M (List.sublist_append_left _ _)) hw' (by omega) : CALL prg f_laws_heldPlayer #[.agg c10, .int .i64 (1 : Int)] _ _) fun h19 M => as_i (ge_br (by omega) (eqB ?_)))
  refine M.lda0 (Look.skip .here) (rsz R0 rfl) (NewR.go M (to_Score_c (rScore.ext M.ext R0) hw) fun h20 c20 B20 M O20 s20 => as_a ?_)
  refine PairR.go M (impl_NewPlayer_c (rScore.look O20 M (List.sublist_append_left _ _))) fun h21 c21 B21 M O21 s21 => tup2 (as_a (as_i (M.alc fun g77 h22 x22 M => M.sta0 .here s21 (rPlayer.oone O21) rfl .here fun h23 M => M.lda0 .here s21 ?_)))
  have M := M.cnt (W := (g17, T_impl_Player, c4) :: (g34, T_impl_Player, c10) :: (B21 ++ (B18 ++ B4))) (fun p => by simp only [cnt_app, cnt_cons, cnt_nil] at *; omega)
  refine M.lda0 .here s4 (goM M (eq_Player_c (rdR M (fun p => by simp only [cnt_app, cnt_cons, cnt_nil] at *; omega) O21) (rdR M (fun p => by simp only [cnt_app, cnt_cons, cnt_nil] at *; omega) O4)) fun h24 M => as_b (bne_br rfl (eqB ?_)))
  refine M.lda0 (.there .here) s10 (goM M (held_Player_c 1 (rdR M (fun p => by simp only [cnt_app, cnt_cons, cnt_nil] at *; omega) O18) hw' (by omega) : CALL prg f_laws_heldPlayer #[.agg c10, .int .i64 (1 : Int)] _ _) fun h25 M => as_i (ge_br (by omega) (eqB ⟨rfl, M.ext⟩)))
end
end Go.Sx
/- Given Tuning, Instrument, Event, Score opened. -/
set_option linter.unusedVariables false
set_option linter.unusedSimpArgs false
namespace Go.Sx
open Go.Proofs
set_option maxRecDepth 100000
theorem opens_Tuning : Opens prg rTuning (([T_float32] ++ ([T_float32] ++ ([T_sl_float32])))) := opens_via (fun p => ⟨p.1, p.2.1, p.2.2⟩) (fun _ => rfl) (opens_seq (opens_float U_float32) (opens_seq (opens_float U_float32) ((opens_sl (n := 9) (U_sl_float32) (by kernel_rfl) (by kernel_rfl) (opens_float U_float32)))))
theorem opens_Instrument : Opens prg rInstrument (([T_string] ++ ([T_int64] ++ ([T_float32] ++ ([T_float32] ++ ([T_float32])))))) := opens_via (fun p => ⟨p.1, p.2.1, p.2.2.1, p.2.2.2.1, p.2.2.2.2⟩) (fun _ => rfl) (opens_seq (opens_str U_string) (opens_seq (opens_int U_int64) (opens_seq (opens_float U_float32) (opens_seq (opens_float U_float32) ((opens_float U_float32))))))
theorem opens_Event : Opens prg rEvent (([T_int64] ++ ([T_int64] ++ ([T_int64] ++ ([T_int64] ++ ([T_int64] ++ ([T_float32]))))))) := opens_via (fun p => ⟨p.1, p.2.1, p.2.2.1, p.2.2.2.1, p.2.2.2.2.1, p.2.2.2.2.2⟩) (fun _ => rfl) (opens_seq (opens_int U_int64) (opens_seq (opens_int U_int64) (opens_seq (opens_int U_int64) (opens_seq (opens_int U_int64) (opens_seq (opens_int U_int64) ((opens_float U_float32)))))))
theorem opens_Score : Opens prg rScore (([T_float32] ++ (([T_float32] ++ ([T_float32] ++ ([T_sl_float32]))) ++ ([T_sl_laws_Instrument] ++ ([T_sl_laws_Event]))))) := opens_via (fun p => ⟨p.1, p.2.1, p.2.2.1, p.2.2.2⟩) (fun _ => rfl) (opens_seq (opens_float U_float32) (opens_seq opens_Tuning (opens_seq (opens_sl (n := 9) (U_sl_laws_Instrument) (by kernel_rfl) (by kernel_rfl) opens_Instrument) ((opens_sl (n := 9) (U_sl_laws_Event) (by kernel_rfl) (by kernel_rfl) opens_Event)))))
end Go.Sx
