/- The law FnExactVoiceFor, as the program tells it. -/
import Derived.Test.YthhepeklpgefkaaGreatDoorLk53
import Derived.Test.YthhepeklpgefkaaGreatDoorH5
import Derived.Test.YthhepeklpgefkaaGreatDoorLhr
import Derived.Test.YthhepeklpgefkaaGreatDoorLh0
import Derived.Test.YthhepeklpgefkaaGreatDoorLk35
import Derived.Test.YthhepeklpgefkaaGreatDoorLk4
import Derived.Test.YthhepeklpgefkaaGreatDoorLpn
import Derived.Test.YthhepeklpgefkaaGreatDoorTab
import Derived.Test.YthhepeklpgefkaaGreatDoorLr6
set_option linter.unusedVariables false
set_option linter.unusedSimpArgs false
namespace Go.Sx
open Go.Proofs
set_option maxRecDepth 100000
set_option maxHeartbeats 4000000

theorem w_pluck {x : GString} {p f : Nat} : w_String (x.pluck p f).1 ≤ w_String x := by
  unfold GString.pluck
  split
  · split
    · split
      · show (chg _ _ _).Samples.length ≤ x.Loop.Samples.length
        rw [chg_len]; exact Nat.le_refl _
      · exact Nat.zero_le _
    · exact Nat.zero_le _
  · exact Nat.zero_le _
theorem w_newString {p m l : Nat} : w_String (newString p m l).1 ≤ 1024 := by
  unfold newString
  split
  · next h1 =>
    split
    · next h2 =>
      split
      · obtain ⟨_, _, _, _, _, _, _, h⟩ := str_fine (l := l) h1 h2
        show (List.replicate (strN p m) 0).length ≤ _
        rw [List.length_replicate]; exact h
      · exact Nat.zero_le _
    · exact Nat.zero_le _
  · exact Nat.zero_le _
theorem w_newPipe {n : Int} {op : Bool} {k l : Nat} : w_Pipe (newPipe n op k l).1 ≤ 2050 := by
  unfold newPipe pipeIf
  split
  · next h =>
    simp only [inR, Bool.and_eq_true, decide_eq_true_eq] at h
    show w_RingS [quietR n] + w_RingS [quietR n] + w_Float32S [] ≤ _
    have e : w_Ring (quietR n) = n.toNat := by show (List.replicate n.toNat 0).length = _; rw [List.length_replicate]
    unfold w_RingS nL nL
    rw [e]
    show (1 + (n.toNat + 0)) + (1 + (n.toNat + 0)) + 0 ≤ _
    omega
  · exact Nat.zero_le _
theorem w_newBow {p : Int} {k l s : Nat} : w_Bow (newBow p k l s).1 ≤ 2048 := by
  unfold newBow
  split
  · next h =>
    simp only [inR, Bool.and_eq_true, decide_eq_true_eq] at h
    split
    · split
      · split
        · show (List.replicate (p - bowN p).toNat 0).length + (List.replicate (bowN p).toNat 0).length ≤ _
          rw [List.length_replicate, List.length_replicate]
          unfold bowN
          split <;> omega
        · exact Nat.zero_le _
      · exact Nat.zero_le _
    · exact Nat.zero_le _
  · exact Nat.zero_le _
theorem w_voiceOf {s : GScore} {e : GEvent} : w_Voice (forV (voiceOf s e)) ≤ 4096 := by
  have z1 : w_String z_String = 0 := rfl
  have z2 : w_Pipe z_Pipe = 0 := rfl
  have z3 : w_Bow z_Bow = 0 := rfl
  have no : w_Voice (forV none) ≤ 4096 := Nat.zero_le _
  unfold voiceOf
  dsimp only
  split
  · split
    · split
      · split
        · refine Nat.le_trans (Nat.add_le_add_right (Nat.add_le_add_right w_pluck _) _) ?_
          refine Nat.le_trans (Nat.add_le_add_right (Nat.add_le_add_right w_newString _) _) ?_
          show 1024 + w_Pipe z_Pipe + w_Bow z_Bow ≤ _
          omega
        · exact no
      · exact no
    · split
      · split
        · refine Nat.le_trans (Nat.add_le_add_right (Nat.add_le_add_left w_newPipe _) _) ?_
          show w_String z_String + 2050 + w_Bow z_Bow ≤ _
          omega
        · exact no
      · split
        · refine Nat.le_trans (Nat.add_le_add_left w_newBow _) ?_
          show w_String z_String + w_Pipe z_Pipe + 2048 ≤ _
          omega
        · exact no
  · exact no
theorem w_voiceFor {s : GScore} {e : GEvent} : w_Voice (s.voiceFor e).1 ≤ 1048576 := by
  unfold GScore.voiceFor
  split
  · exact Nat.le_trans w_voiceOf (by omega)
  · exact Nat.zero_le _
section
variable {h : Heap}
theorem FnExactVoiceFor_c {cs ce : Array Value} {x : GScore} {e : GEvent} (R0 : rScore.rd h cs.toList x) (E0 : rEvent.rd h ce.toList e) : CALL prg f_laws_FnExactVoiceFor #[.agg cs, .agg ce] (fun u h' => u = .bool true ∧ Ext h h') h := by
  refine laws_FnExactVoiceFor.call ((Mem.start h).alc fun g1 h1 x1 M => M.alc fun g3 h1 x1 M => M.lda0 (.there .here) (rsz R0 rfl) (goM M (sz_Score_c (rScore.ext M.ext R0) 1048576 (by omega) : CALL prg f_laws_szScore #[.agg cs, .int .i64 (1048576 : Int)] _ _) fun h2 M => as_i (br (fun hb => ⟨rfl, M.ext⟩) fun hb => ?_)))
  have hw : w_Score x ≤ 1048576 := by
    unfold subW at hb
    split at hb
    · simp at hb
    · omega
  have hw' : w_Voice (x.voiceFor e).1 ≤ 1048576 := w_voiceFor
  have hn := nw_Score x
  have hn' := nw_Voice (x.voiceFor e).1
  generalize hq : x.voiceFor e = q at *
  have spc : ∀ {hh : Heap} {ca cb : Array Value}, rScore.rd hh ca.toList x → rEvent.rd hh cb.toList e → CALL prg f_spec_VoiceFor #[.agg ca, .agg cb] (fun u h' => PairR rVoice hh h' u q.1 q.2) hh := fun R E => by have := spec_VoiceFor_c R E; rw [hq] at this; exact this
  have imc : ∀ {hh : Heap} {ca cb : Array Value}, rScore.rd hh ca.toList x → rEvent.rd hh cb.toList e → CALL prg f_impl_VoiceFor #[.agg ca, .agg cb] (fun u h' => PairR rVoice hh h' u q.1 q.2) hh := fun R E => by have := impl_VoiceFor_c R E; rw [hq] at this; exact this
  clear hq hb
  have rd : ∀ {α : Type} (r : Rep α) {hb hh : Heap} {W B : List Blk} {c : Array Value} {z : α}, Mem hb hh W → r.ow B c.toList z → (∀ p, Sx.cnt p B ≤ Sx.cnt p W) → r.rd hh c.toList z := fun r => fun M O k => r.look O (M.cnt k) (List.Sublist.refl _)
  refine M.lda0 (.there .here) (rsz R0 rfl) (M.lda0 .here (rsz E0 rfl) ?_)
  have R2 := rScore.ext M.ext R0
  have E2 := rEvent.ext M.ext E0
  have P1 : RdP rScore h2 ⟨g1, 0, none⟩ x := M.rdp (.there .here) R2
  have P3 : RdP rEvent h2 ⟨g3, 0, none⟩ e := M.rdp .here E2
  suffices key : ∀ {hh : Heap} {g : Nat} {B : List Blk} {c : Array Value}, rVoice.ow B c.toList q.1 → Mem h2 hh ((g, T_impl_Voice, ⟨Z_impl_Voice⟩) :: B) → STA 45 hh ⟨g, 0, none⟩ c fun h25 => laws_FnExactVoiceFor.J6 (fun u h' => u = .bool true ∧ Ext h h') ⟨g1, 0, none⟩ ⟨g3, 0, none⟩ ⟨g, 0, none⟩ q.2 h25 by
    have N0 := Mem.start h2
    clear M
    (repeat' (first
      | refine RdP.pin P3 rfl (Mem.ext (by assumption)) ?_
      | refine RdP.pin P1 rfl (Mem.ext (by assumption)) ?_
      | refine NewR.go (by assumption) (to_Score_c (rScore.ext (Mem.ext (by assumption)) R2) hw) fun _ _ _ _ _ _ => as_a ?_
      | refine NewR.go (by assumption) (to_Event_c (rEvent.ext (Mem.ext (by assumption)) E2)) fun _ _ _ _ _ _ => as_a ?_
      | refine PairR.go (by assumption) (spc (rd rScore (by assumption) (by assumption) (fun p => by simp only [List.append_eq, cnt_app, cnt_cons, cnt_nil] at *; omega)) (rd rEvent (by assumption) (by assumption) (fun p => by simp only [List.append_eq, cnt_app, cnt_cons, cnt_nil] at *; omega))) fun _ _ _ _ _ _ => tup2 (as_a (as_i ?_))
      | refine Mem.alc (by assumption) fun _ _ _ _ => ?_
      | exact key (by assumption) (Mem.cnt (by assumption) (fun p => by simp only [List.append_eq, cnt_app, cnt_cons, cnt_nil] at *; omega))
      | refine And.intro ?_ ?_))
  intro hh gw Bw cw Ow N
  have M := (M.join N).cnt (W := (g1, T_laws_Score, cs) :: (g3, T_laws_Event, ce) :: (gw, T_impl_Voice, ⟨Z_impl_Voice⟩) :: Bw) (fun p => by simp only [List.append_eq, cnt_app, cnt_cons, cnt_nil] at *; omega)
  clear N P1 P3 R2 E2 spc
  have sw : cw.size = 45 := osz Ow rfl
  refine M.sta0 (.there (.there .here)) sw (rVoice.oone Ow) rfl (.there (.there .here)) fun h3 M => ?_
  unfold laws_FnExactVoiceFor.J6
  refine M.lda0 .here (rsz R0 rfl) (NewR.go M (to_Score_c (rScore.ext M.ext R0) hw) fun h7 c7 B7 M O7 s7 => as_a (M.alc fun g24 h8 x8 M => M.sta0 .here s7 (rScore.oone O7) rfl .here fun h9 M => M.lda0 .here s7 ?_))
  have M : Mem h h9 ((g24, T_impl_Score, c7) :: (B7 ++ ((g1, T_laws_Score, cs) :: (g3, T_laws_Event, ce) :: (gw, T_impl_Voice, cw) :: Bw))) := M
  have M := M.cnt (W := (g1, T_laws_Score, cs) :: (g3, T_laws_Event, ce) :: (gw, T_impl_Voice, cw) :: (g24, T_impl_Score, c7) :: (Bw ++ B7)) (fun p => by simp only [cnt_app, cnt_cons, cnt_nil] at *; omega)
  have R9 : rScore.rd h9 c7.toList x := rd rScore M O7 (fun p => by simp only [cnt_app, cnt_cons, cnt_nil] at *; omega)
  have E9 := rEvent.ext M.ext E0
  have P24 : RdP rScore h9 ⟨g24, 0, none⟩ x := M.rdp (.there (.there (.there .here))) R9
  have P3 : RdP rEvent h9 ⟨g3, 0, none⟩ e := M.rdp (.there .here) E9
  refine M.lda0 (.there .here) (rsz E0 rfl) ?_
  suffices key : ∀ {hh : Heap} {g : Nat} {B : List Blk} {c : Array Value}, rVoice.ow B c.toList q.1 → Mem h9 hh ((g, T_impl_Voice, ⟨Z_impl_Voice⟩) :: B) → STA 45 hh ⟨g, 0, none⟩ c fun h25 => laws_FnExactVoiceFor.J8 (fun u h' => u = .bool true ∧ Ext h h') ⟨g1, 0, none⟩ ⟨g3, 0, none⟩ ⟨gw, 0, none⟩ q.2 ⟨g24, 0, none⟩ ⟨g, 0, none⟩ q.2 h25 by
    have N0 := Mem.start h9
    clear M
    (repeat' (first
      | refine RdP.pin P3 rfl (Mem.ext (by assumption)) ?_
      | refine RdP.pin P24 rfl (Mem.ext (by assumption)) ?_
      | refine NewR.go (by assumption) (to_Event_c (rEvent.ext (Mem.ext (by assumption)) E9)) fun _ _ _ _ _ _ => as_a ?_
      | refine PairR.go (by assumption) (imc (rScore.ext (Mem.ext (by assumption)) R9) (rd rEvent (by assumption) (by assumption) (fun p => by simp only [List.append_eq, cnt_app, cnt_cons, cnt_nil] at *; omega))) fun _ _ _ _ _ _ => tup2 (as_a (as_i ?_))
      | refine Mem.alc (by assumption) fun _ _ _ _ => ?_
      | exact key (by assumption) (Mem.cnt (by assumption) (fun p => by simp only [List.append_eq, cnt_app, cnt_cons, cnt_nil] at *; omega))
      | refine And.intro ?_ ?_))
  intro hh gg Bg cg Og N
  have M := (M.join N).cnt (W := (g1, T_laws_Score, cs) :: (g3, T_laws_Event, ce) :: (gw, T_impl_Voice, cw) :: (g24, T_impl_Score, c7) :: (gg, T_impl_Voice, ⟨Z_impl_Voice⟩) :: (Bw ++ (B7 ++ Bg))) (fun p => by simp only [List.append_eq, cnt_app, cnt_cons, cnt_nil] at *; omega)
  clear N P24 P3 R9 E9
  have sg : cg.size = 45 := osz Og rfl
  refine M.sta0 (.there (.there (.there (.there .here)))) sg (rVoice.oone Og) rfl (.there (.there (.there (.there .here)))) fun h12 M => ?_
  have M : Mem h h12 ((g1, T_laws_Score, cs) :: (g3, T_laws_Event, ce) :: (gw, T_impl_Voice, cw) :: (g24, T_impl_Score, c7) :: (gg, T_impl_Voice, cg) :: (Bw ++ (B7 ++ Bg))) := M
  unfold laws_FnExactVoiceFor.J8
  refine M.lda0 (.there (.there (.there (.there .here)))) sg (M.lda0 (.there (.there .here)) sw (goM M (eq_Voice_c (rd rVoice M Og (fun p => by simp only [cnt_app, cnt_cons, cnt_nil] at *; omega)) (rd rVoice M Ow (fun p => by simp only [cnt_app, cnt_cons, cnt_nil] at *; omega))) fun h13 M => as_b (bne_br rfl (eqB ?_))))
  unfold laws_FnExactVoiceFor.J10
  have R7 : rScore.rd h13 c7.toList x := rd rScore M O7 (fun p => by simp only [cnt_app, cnt_cons, cnt_nil] at *; omega)
  have P7 : RdP rScore h13 ⟨g24, 0, none⟩ x := M.rdp (.there (.there (.there .here))) R7
  refine M.lda0 (.there (.there (.there .here))) s7 (M.lda0 .here (rsz R0 rfl) (NewR.go (Mem.start h13) (to_Score_c (rScore.ext M.ext R0) hw) fun h14 c14 B14 N O14 s14 => as_a (P7.pin rfl N.ext ?_)))
  have M := M.join N
  refine goM M (eq_Score_c (rScore.ext N.ext R7) (rd rScore M O14 (fun p => by simp only [cnt_app, cnt_cons, cnt_nil] at *; omega))) fun h15 M => as_b (bne_br rfl ?_)
  have M := M.cnt (W := B7 ++ ((g1, T_laws_Score, cs) :: (g3, T_laws_Event, ce) :: (gw, T_impl_Voice, cw) :: (g24, T_impl_Score, c7) :: (gg, T_impl_Voice, cg) :: (Bw ++ Bg))) (fun p => by simp only [cnt_app, cnt_cons, cnt_nil] at *; omega)
  refine M.lda0 (Look.skip (.there (.there (.there .here)))) s7 (markM (mark_Score_c O7 M 1 hw (by omega) : CALL prg f_laws_markScore #[.agg c7, .int .i64 (1 : Int)] _ _) fun h16 B16 M O16 => as_i (ge_br (by omega) ?_))
  refine M.lda0 (Look.skip (.there (.there (.there (.there .here))))) sg (M.lda0 (Look.skip (.there (.there .here))) sw (goM M (eq_Voice_c (rd rVoice M Og (fun p => by simp only [cnt_app, cnt_cons, cnt_nil] at *; omega)) (rd rVoice M Ow (fun p => by simp only [cnt_app, cnt_cons, cnt_nil] at *; omega))) fun h17 M => as_b (bne_br rfl (eqB ?_))))
  unfold laws_FnExactVoiceFor.J16
  have M := M.cnt (W := Bg ++ ((g1, T_laws_Score, cs) :: (g3, T_laws_Event, ce) :: (gw, T_impl_Voice, cw) :: (gg, T_impl_Voice, cg) :: Bw)) (fun p => by simp only [cnt_app, cnt_cons, cnt_nil] at *; omega)
  refine M.lda0 (Look.skip (.there (.there (.there .here)))) sg (markM (mark_Voice_c Og M 1 hw' (by omega) : CALL prg f_laws_markVoice #[.agg cg, .int .i64 (1 : Int)] _ _) fun h18 B18 M O18 => as_i ?_)
  refine M.lda0 (Look.skip (.there (.there (.there .here)))) sg (goM M (held_Voice_c 1 (rVoice.look O18 M (List.sublist_append_left _ _)) hw' (by omega) : CALL prg f_laws_heldVoice #[.agg cg, .int .i64 (1 : Int)] _ _) fun h19 M => as_i (ge_br (by omega) (eqB ?_)))
  refine M.lda0 (Look.skip .here) (rsz R0 rfl) (M.lda0 (Look.skip (.there .here)) (rsz E0 rfl) ?_)
  have R2 := rScore.ext M.ext R0
  have E2 := rEvent.ext M.ext E0
  have P1 : RdP rScore h19 ⟨g1, 0, none⟩ x := M.rdp (Look.skip .here) R2
  have P3 : RdP rEvent h19 ⟨g3, 0, none⟩ e := M.rdp (Look.skip (.there .here)) E2
  suffices key : ∀ {hh : Heap} {g : Nat} {B : List Blk} {c : Array Value}, rVoice.ow B c.toList q.1 → Mem h19 hh ((g, T_impl_Voice, ⟨Z_impl_Voice⟩) :: B) → STA 45 hh ⟨g, 0, none⟩ c fun h25 => laws_FnExactVoiceFor.J25 (fun u h' => u = .bool true ∧ Ext h h') ⟨gw, 0, none⟩ q.2 ⟨gg, 0, none⟩ ((1 + n_Voice q.1 : Nat) : Int) ⟨g, 0, none⟩ q.2 h25 by
    have N0 := Mem.start h19
    clear M R7 P7 O7 O14 N O16 O18 Ow Og
    (repeat' (first
      | refine RdP.pin P3 rfl (Mem.ext (by assumption)) ?_
      | refine RdP.pin P1 rfl (Mem.ext (by assumption)) ?_
      | refine NewR.go (by assumption) (to_Score_c (rScore.ext (Mem.ext (by assumption)) R2) hw) fun _ _ _ _ _ _ => as_a ?_
      | refine NewR.go (by assumption) (to_Event_c (rEvent.ext (Mem.ext (by assumption)) E2)) fun _ _ _ _ _ _ => as_a ?_
      | refine PairR.go (by assumption) (imc (rd rScore (by assumption) (by assumption) (fun p => by simp only [List.append_eq, cnt_app, cnt_cons, cnt_nil] at *; omega)) (rd rEvent (by assumption) (by assumption) (fun p => by simp only [List.append_eq, cnt_app, cnt_cons, cnt_nil] at *; omega))) fun _ _ _ _ _ _ => tup2 (as_a (as_i ?_))
      | refine Mem.alc (by assumption) fun _ _ _ _ => ?_
      | exact key (by assumption) (Mem.cnt (by assumption) (fun p => by simp only [List.append_eq, cnt_app, cnt_cons, cnt_nil] at *; omega))
      | refine And.intro ?_ ?_))
  intro hh gv Bv cv Ov N2
  have M := (M.join N2).cnt (W := (gw, T_impl_Voice, cw) :: (gg, T_impl_Voice, cg) :: (gv, T_impl_Voice, ⟨Z_impl_Voice⟩) :: (Bv ++ (B18 ++ Bw))) (fun p => by simp only [List.append_eq, cnt_app, cnt_cons, cnt_nil] at *; omega)
  clear N2 N P1 P3 R2 E2 P7 R7
  have sv : cv.size = 45 := osz Ov rfl
  refine M.sta0 (.there (.there .here)) sv (rVoice.oone Ov) rfl (.there (.there .here)) fun h23 M => ?_
  unfold laws_FnExactVoiceFor.J25
  have M : Mem h h23 ((gw, T_impl_Voice, cw) :: (gg, T_impl_Voice, cg) :: (gv, T_impl_Voice, cv) :: (Bv ++ (B18 ++ Bw))) := M
  refine M.lda0 (.there (.there .here)) sv (M.lda0 .here sw (goM M (eq_Voice_c (rd rVoice M Ov (fun p => by simp only [cnt_app, cnt_cons, cnt_nil] at *; omega)) (rd rVoice M Ow (fun p => by simp only [cnt_app, cnt_cons, cnt_nil] at *; omega))) fun h24 M => as_b (bne_br rfl (eqB ?_))))
  unfold laws_FnExactVoiceFor.J27
  exact M.lda0 (.there .here) sg (goM M (held_Voice_c 1 (rd rVoice M O18 (fun p => by simp only [cnt_app, cnt_cons, cnt_nil] at *; omega)) hw' (by omega) : CALL prg f_laws_heldVoice #[.agg cg, .int .i64 (1 : Int)] _ _) fun h25 M => as_i (ge_br (by omega) (eqB ⟨rfl, M.ext⟩)))
end
end Go.Sx
/- Given Tuning, Instrument, Event, Score opened. -/
set_option linter.unusedVariables false
set_option linter.unusedSimpArgs false
namespace Go.Sx
open Go.Proofs
set_option maxRecDepth 100000
theorem opens_Tuning : Opens prg rTuning (([T_float32] ++ ([T_float32] ++ ([T_sl_float32])))) := opens_via (fun p => ⟨p.1, p.2.1, p.2.2⟩) (fun _ => rfl) (opens_seq (opens_float U_float32) (opens_seq (opens_float U_float32) ((opens_sl (n := 9) (U_sl_float32) (by kernel_rfl) (by kernel_rfl) (opens_float U_float32)))))
theorem opens_Instrument : Opens prg rInstrument (([T_string] ++ ([T_int64] ++ ([T_float32] ++ ([T_float32] ++ ([T_float32])))))) := opens_via (fun p => ⟨p.1, p.2.1, p.2.2.1, p.2.2.2.1, p.2.2.2.2⟩) (fun _ => rfl) (opens_seq (opens_str U_string) (opens_seq (opens_int U_int64) (opens_seq (opens_float U_float32) (opens_seq (opens_float U_float32) ((opens_float U_float32))))))
theorem opens_Event : Opens prg rEvent (([T_int64] ++ ([T_int64] ++ ([T_int64] ++ ([T_int64] ++ ([T_int64] ++ ([T_float32]))))))) := opens_via (fun p => ⟨p.1, p.2.1, p.2.2.1, p.2.2.2.1, p.2.2.2.2.1, p.2.2.2.2.2⟩) (fun _ => rfl) (opens_seq (opens_int U_int64) (opens_seq (opens_int U_int64) (opens_seq (opens_int U_int64) (opens_seq (opens_int U_int64) (opens_seq (opens_int U_int64) ((opens_float U_float32)))))))
theorem opens_Score : Opens prg rScore (([T_float32] ++ (([T_float32] ++ ([T_float32] ++ ([T_sl_float32]))) ++ ([T_sl_laws_Instrument] ++ ([T_sl_laws_Event]))))) := opens_via (fun p => ⟨p.1, p.2.1, p.2.2.1, p.2.2.2⟩) (fun _ => rfl) (opens_seq (opens_float U_float32) (opens_seq opens_Tuning (opens_seq (opens_sl (n := 9) (U_sl_laws_Instrument) (by kernel_rfl) (by kernel_rfl) opens_Instrument) ((opens_sl (n := 9) (U_sl_laws_Event) (by kernel_rfl) (by kernel_rfl) opens_Event)))))
end Go.Sx
