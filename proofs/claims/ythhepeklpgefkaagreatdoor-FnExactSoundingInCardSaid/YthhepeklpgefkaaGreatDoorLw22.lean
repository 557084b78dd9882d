/- The law FnExactSoundingIn, as the program tells it. -/
import Derived.Test.YthhepeklpgefkaaGreatDoorLk67
import Derived.Test.YthhepeklpgefkaaGreatDoorLmt
import Derived.Test.YthhepeklpgefkaaGreatDoorLh7
import Derived.Test.YthhepeklpgefkaaGreatDoorLh0
import Derived.Test.YthhepeklpgefkaaGreatDoorLp7
import Derived.Test.YthhepeklpgefkaaGreatDoorLk3
import Derived.Test.YthhepeklpgefkaaGreatDoorLr4
import Derived.Test.YthhepeklpgefkaaGreatDoorLr7
set_option linter.unusedVariables false
set_option linter.unusedSimpArgs false
namespace Go.Sx
open Go.Proofs
set_option maxRecDepth 100000
set_option maxHeartbeats 2000000

def mk_Int64S (xs : List Int) (k : Nat) : List Int := (List.range xs.length).map fun i => ((k + i : Nat) : Int)
theorem mkI_get {xs : List Int} {k i : Nat} (hi : i < xs.length) : (mk_Int64S xs k)[i]! = ((k + i : Nat) : Int) := by
  rw [getElem!_pos _ i (by simpa [mk_Int64S] using hi)]
  simp [mk_Int64S]
section
variable {h : Heap}
theorem eq_Int64S_c {b1 b2 : Option Addr} {l1 c1 l2 c2 : Nat} {xs : List Int} (S1 : SlR (rI .i64) h b1 l1 c1 xs) (S2 : SlR (rI .i64) h b2 l2 c2 xs) : CALL prg f_laws_eqInt64S #[.slice b1 l1 c1, .slice b2 l2 c2] (fun u h' => u = .bool true ∧ Ext h h') h := by
  have e1 := S1.len
  have e2 := S2.len
  have h2 := S1.2.1
  have h3 := S1.2.2.1
  have := maxLen_lt
  obtain rfl : l1 = l2 := by omega
  refine laws_eqInt64S.call (br_f (by simp) ?_)
  refine loop (fun x hh => ∃ n : Nat, x = (b1, l1, c1, b2, l1, c2, (n : Int)) ∧ n ≤ l1 ∧ hh = h) (fun x => (l1 - x.2.2.2.2.2.2).toNat) ⟨0, rfl, by omega, rfl⟩ ?_
  rintro x hh ⟨n, rfl, hn, rfl⟩
  refine brd (fun hc => ?_) fun hc => ⟨rfl, Ext.refl _⟩
  exact S1.idn (by decide) (by omega) fun a Ra => Ra.oI1 (S2.idn (by decide) (by omega) fun a' Rb => Rb.oI1 (br_f (by simp) ⟨⟨n + 1, by rw [wrap64_succ (by omega)], by omega, rfl⟩, by rw [wrap64_succ (by omega)]; show _ < _; simp; omega⟩))
theorem mark_Int64S_c {h0 : Heap} {B L : List Blk} {b : Option Addr} {l c : Nat} {xs : List Int} (O : SlO T_int64 (rI .i64) B b l c xs) (M : Mem h0 h (B ++ L)) (k : Nat) (hk : k + xs.length ≤ 1073741824) :
    CALL prg f_laws_markInt64S #[.slice b l c, .int .i64 (k : Int)] (fun u h' => u = .int .i64 ((k + xs.length : Nat) : Int) ∧ ∃ B', SlO T_int64 (rI .i64) B' b l c (mk_Int64S xs k) ∧ Mem h0 h' (B' ++ L)) h := by
  have h1 := O.len
  refine laws_markInt64S.call ?_
  refine loop (fun x hh => ∃ (n : Nat) (B : List Blk) (ys : List Int), x = (b, l, c, ((k + n : Nat) : Int), (n : Int)) ∧ n ≤ l ∧ SlO T_int64 (rI .i64) B b l c ys ∧ Mem h0 hh (B ++ L) ∧ ∀ i, i < n → ys[i]! = ((k + i : Nat) : Int)) (fun x => (l - x.2.2.2.2).toNat) ⟨0, B, xs, rfl, by omega, O, M, fun i hi => by omega⟩ ?_
  rintro x hh ⟨n, B, ys, rfl, hn, O, M, hy⟩
  have h2 := O.len
  refine brd (fun hc => ?_) fun hc => ?_
  · obtain ⟨a0, F', L', rfl, P, hs, close⟩ := O.elem M (i := n) (by omega)
    refine idxs (by omega) (by omega) (P.stI0 (m := ((k + n : Nat) : Int)) fun h' P' => ?_)
    obtain ⟨B', O', M'⟩ := close _ _ _ P'
    refine ⟨⟨n + 1, B', _, by rw [wrap64_succ (by omega), wrap64_succ (by omega)]; rfl, by omega, O', M', fun i hi => ?_⟩, by rw [wrap64_succ (n := n) (by omega)]; show _ < _; simp; omega⟩
    rw [get_set2 (by omega)]
    by_cases e : n = i
    · subst e; rw [if_pos rfl]
    · rw [if_neg e]; exact hy i (by omega)
  · obtain rfl : n = l := by omega
    refine ⟨by rw [h1], B, ?_, M⟩
    have : ys = mk_Int64S xs k := by
      apply List.ext_getElem
      · simp [mk_Int64S]; omega
      · intro i hi hi2
        have := hy i (by omega)
        rw [getElem!_pos _ i hi] at this
        rw [this]; simp [mk_Int64S]
    rw [← this]; exact O
theorem held_Int64S_c {b : Option Addr} {l c : Nat} {xs : List Int} (k : Nat) (S : SlR (rI .i64) h b l c (mk_Int64S xs k)) (hk : k + xs.length ≤ 1073741824) :
    CALL prg f_laws_heldInt64S #[.slice b l c, .int .i64 (k : Int)] (fun u h' => u = .int .i64 ((k + xs.length : Nat) : Int) ∧ Ext h h') h := by
  have h1 : xs.length = l := by have := S.len; simpa [mk_Int64S] using this
  refine laws_heldInt64S.call ?_
  refine loop (fun x hh => ∃ n : Nat, x = (b, l, c, ((k + n : Nat) : Int), (n : Int)) ∧ n ≤ l ∧ hh = h) (fun x => (l - x.2.2.2.2).toNat) ⟨0, rfl, by omega, rfl⟩ ?_
  rintro x hh ⟨n, rfl, hn, rfl⟩
  refine brd (fun hc => ?_) fun hc => ?_
  · refine S.idn (by decide) (by omega) fun a Ra => Ra.oI1 ?_
    rw [mkI_get (by omega)]
    exact br_f (by simp) ⟨⟨n + 1, by rw [wrap64_succ (by omega), wrap64_succ (by omega)]; rfl, by omega, rfl⟩, by rw [wrap64_succ (n := n) (by omega)]; show _ < _; simp; omega⟩
  · obtain rfl : n = l := by omega
    exact ⟨by rw [h1], Ext.refl _⟩
theorem PairS.go {P : Program} {f : FuncId} {args : Array Value} {r : List Int × Int} {hb h : Heap} {L : List Blk} {K : Value → Heap → Prop} (M : Mem hb h L) (c : CALL P f args (fun u h' => PairS h h' u r) h)
    (H : ∀ h' b l c B, Mem hb h' (B ++ L) → SlO T_int64 (rI .i64) B b l c r.1 → K (.tuple ⟨[.slice b l c, .int .i64 r.2]⟩) h') : CALL P f args K h :=
  c.mono fun u h' ⟨b, l, c, B, e, O, N⟩ => by subst e; exact H h' b l c B (M.join N) O
theorem sounding_len {p : GPlayer} : p.sounding.1.length ≤ 1000 := by
  unfold GPlayer.sounding
  split
  · next ok =>
    have h1 := notesTo_len p.Voices 64
    have h2 := voices_six ok
    have h3 : 64 * p.Voices.length ≤ 64 * 6 := Nat.mul_le_mul_left _ h2
    exact Nat.le_trans h1 (by omega)
  · exact Nat.zero_le _
theorem FnExactSoundingIn_c {cs : Array Value} {x : GPlayer} (R0 : rPlayer.rd h cs.toList x) : CALL prg f_laws_FnExactSoundingIn #[.agg cs] (fun u h' => u = .bool true ∧ Ext h h') h := by
  refine laws_FnExactSoundingIn.call ((Mem.start h).alc fun g1 h1 x1 M => M.lda0 .here (rsz R0 rfl) (goM M (sz_Player_c (rPlayer.ext M.ext R0) 1048576 (by omega) : CALL prg f_laws_szPlayer #[.agg cs, .int .i64 (1048576 : Int)] _ _) fun h2 M => as_i (br (fun hb => ⟨rfl, M.ext⟩) fun hb => ?_)))
  have hw : w_Player x ≤ 1048576 := by
    unfold subW at hb
    split at hb
    · simp at hb
    · omega
  have hn := nw_Player x
  have hq := sounding_len (p := x)
  have spc : ∀ {hh : Heap} {ca : Array Value}, rPlayer.rd hh ca.toList x → CALL prg f_spec_SoundingIn #[.agg ca] (fun u h' => PairS hh h' u x.sounding) hh := fun R => spec_SoundingIn_c R
  have imc : ∀ {hh : Heap} {ca : Array Value}, rPlayer.rd hh ca.toList x → CALL prg f_impl_SoundingIn #[.agg ca] (fun u h' => PairS hh h' u x.sounding) hh := fun R => impl_SoundingIn_c R
  generalize x.sounding = q at *
  refine M.lda0 .here (rsz R0 rfl) (NewR.go M (to_Player_c (rPlayer.ext M.ext R0) hw) fun h3 c3 B3 M O3 s3 => as_a ?_)
  refine PairS.go M (spc (rPlayer.look O3 M (List.sublist_append_left _ _))) fun h4 b4 l4 c4 B4 M O4 => tup2 (as_l (as_i ?_))
  have M := M.cnt (W := (g1, T_laws_Player, cs) :: B4) (fun p => by simp only [cnt_app, cnt_cons, cnt_nil] at *; omega)
  refine M.lda0 .here (rsz R0 rfl) (NewR.go M (to_Player_c (rPlayer.ext M.ext R0) hw) fun h7 c7 B7 M O7 s7 => as_a (M.alc fun g24 h8 x8 M => M.sta0 .here s7 (rPlayer.oone O7) rfl .here fun h9 M => M.lda0 .here s7 ?_))
  refine PairS.go M (imc (rPlayer.look O7 M ((List.sublist_append_left _ _).trans (List.sublist_cons_self _ _)))) fun h10 b10 l10 c10 B10 M O10 => tup2 (as_l (as_i ?_))
  have M := M.cnt (W := (g1, T_laws_Player, cs) :: (g24, T_impl_Player, c7) :: (B4 ++ (B7 ++ B10))) (fun p => by simp only [cnt_app, cnt_cons, cnt_nil] at *; omega)
  have rdA : ∀ {hh : Heap} {W B : List Blk} {c : Array Value} {y : GPlayer}, Mem h hh W → (∀ p, Sx.cnt p B ≤ Sx.cnt p W) → rPlayer.ow B c.toList y → rPlayer.rd hh c.toList y := fun M hc O => rPlayer.look O (M.cnt hc) (List.Sublist.refl _)
  have rdS : ∀ {hh : Heap} {W B : List Blk} {b : Option Addr} {l c : Nat} {ys : List Int}, Mem h hh W → (∀ p, Sx.cnt p B ≤ Sx.cnt p W) → SlO T_int64 (rI .i64) B b l c ys → SlR (rI .i64) hh b l c ys := fun M hc O => O.look (M.cnt hc) (List.Sublist.refl _)
  refine goM M (eq_Int64S_c (rdS M (fun p => by simp only [cnt_app, cnt_cons, cnt_nil] at *; omega) O10) (rdS M (fun p => by simp only [cnt_app, cnt_cons, cnt_nil] at *; omega) O4)) fun h13 M => as_b (bne_br rfl (eqB ?_))
  have R7 : rPlayer.rd h13 c7.toList x := rdA M (fun p => by simp only [cnt_app, cnt_cons, cnt_nil] at *; omega) O7
  have P7 : RdP rPlayer h13 ⟨g24, 0, none⟩ x := M.rdp (.there .here) R7
  refine M.lda0 (.there .here) s7 (M.lda0 .here (rsz R0 rfl) (NewR.go (Mem.start h13) (to_Player_c (rPlayer.ext M.ext R0) hw) fun h14 c14 B14 N O14 s14 => as_a (P7.pin rfl N.ext ?_)))
  have M := M.join N
  refine goM M (eq_Player_c (rPlayer.ext N.ext R7) (rdA M (fun p => by simp only [cnt_app, cnt_cons, cnt_nil] at *; omega) O14)) fun h15 M => as_b (bne_br rfl ?_)
  have M := M.cnt (W := B7 ++ ((g1, T_laws_Player, cs) :: (g24, T_impl_Player, c7) :: (B4 ++ B10))) (fun p => by simp only [cnt_app, cnt_cons, cnt_nil] at *; omega)
  refine M.lda0 (Look.skip (.there .here)) s7 (markM (mark_Player_c O7 M 1 hw (by omega) : CALL prg f_laws_markPlayer #[.agg c7, .int .i64 (1 : Int)] _ _) fun h16 B16 M O16 => as_i (ge_br (by omega) ?_))
  refine goM M (eq_Int64S_c (rdS M (fun p => by simp only [cnt_app, cnt_cons, cnt_nil] at *; omega) O10) (rdS M (fun p => by simp only [cnt_app, cnt_cons, cnt_nil] at *; omega) O4)) fun h17 M => as_b (bne_br rfl (eqB ?_))
  have M := M.cnt (W := B10 ++ ((g1, T_laws_Player, cs) :: B4)) (fun p => by simp only [cnt_app, cnt_cons, cnt_nil] at *; omega)
  unfold laws_FnExactSoundingIn.J16
  refine (mark_Int64S_c O10 M 1 (by omega) : CALL prg f_laws_markInt64S #[.slice b10 l10 c10, .int .i64 (1 : Int)] _ _).mono ?_
  rintro _ h18 ⟨rfl, B18, O18, M⟩
  refine as_i (goM M (held_Int64S_c 1 (rdS M (fun p => by simp only [cnt_app, cnt_cons, cnt_nil] at *; omega) O18) (by omega) : CALL prg f_laws_heldInt64S #[.slice b10 l10 c10, .int .i64 (1 : Int)] _ _) fun h19 M => as_i (ge_br (by omega) (eqB ?_)))
  refine M.lda0 (Look.skip .here) (rsz R0 rfl) (NewR.go M (to_Player_c (rPlayer.ext M.ext R0) hw) fun h20 c20 B20 M O20 s20 => as_a ?_)
  refine PairS.go M (imc (rPlayer.look O20 M (List.sublist_append_left _ _))) fun h21 b21 l21 c21 B21 M O21 => tup2 (as_l (as_i ?_))
  have M := M.cnt (W := B21 ++ (B18 ++ B4)) (fun p => by simp only [cnt_app, cnt_cons, cnt_nil] at *; omega)
  refine goM M (eq_Int64S_c (rdS M (fun p => by simp only [cnt_app, cnt_cons, cnt_nil] at *; omega) O21) (rdS M (fun p => by simp only [cnt_app, cnt_cons, cnt_nil] at *; omega) O4)) fun h24 M => as_b (bne_br rfl (eqB ?_))
  exact goM M (held_Int64S_c 1 (rdS M (fun p => by simp only [cnt_app, cnt_cons, cnt_nil] at *; omega) O18) (by omega) : CALL prg f_laws_heldInt64S #[.slice b10 l10 c10, .int .i64 (1 : Int)] _ _) fun h25 M => as_i (ge_br (by omega) (eqB ⟨rfl, M.ext⟩))
end
end Go.Sx
/- Given Ring, Filter opened. -/
set_option linter.unusedVariables false
set_option linter.unusedSimpArgs false
namespace Go.Sx
open Go.Proofs
set_option maxRecDepth 100000
theorem opens_Ring : Opens prg rRing (([T_sl_float32] ++ ([T_int64]))) := opens_via (fun p => ⟨p.1, p.2⟩) (fun _ => rfl) (opens_seq (opens_sl (n := 9) (U_sl_float32) (by kernel_rfl) (by kernel_rfl) (opens_float U_float32)) ((opens_int U_int64)))
theorem opens_Filter : Opens prg rFilter (([T_int64] ++ (((List.replicate 3 [T_float32]).flatten) ++ (((List.replicate 2 [T_float32]).flatten))))) := opens_via (fun p => ⟨p.1, p.2.1, p.2.2⟩) (fun _ => rfl) (opens_seq (opens_int U_int64) (opens_seq (opens_arr 3 (opens_float U_float32)) ((opens_arr 2 (opens_float U_float32)))))
end Go.Sx
/- Given Pipe opened. -/
set_option linter.unusedVariables false
set_option linter.unusedSimpArgs false
namespace Go.Sx
open Go.Proofs
set_option maxRecDepth 100000
theorem opens_Pipe : Opens prg rPipe (([T_sl_laws_Ring] ++ ([T_sl_laws_Ring] ++ ([T_sl_float32] ++ (([T_int64] ++ (((List.replicate 3 [T_float32]).flatten) ++ (((List.replicate 2 [T_float32]).flatten)))) ++ ([T_bool] ++ ([T_float32] ++ ([T_float32] ++ ([T_float32]))))))))) := opens_via (fun p => ⟨p.1, p.2.1, p.2.2.1, p.2.2.2.1, p.2.2.2.2.1, p.2.2.2.2.2.1, p.2.2.2.2.2.2.1, p.2.2.2.2.2.2.2⟩) (fun _ => rfl) (opens_seq (opens_sl (n := 9) (U_sl_laws_Ring) (by kernel_rfl) (by kernel_rfl) opens_Ring) (opens_seq (opens_sl (n := 9) (U_sl_laws_Ring) (by kernel_rfl) (by kernel_rfl) opens_Ring) (opens_seq (opens_sl (n := 9) (U_sl_float32) (by kernel_rfl) (by kernel_rfl) (opens_float U_float32)) (opens_seq opens_Filter (opens_seq (opens_bool U_bool) (opens_seq (opens_float U_float32) (opens_seq (opens_float U_float32) ((opens_float U_float32)))))))))
end Go.Sx
/- Given String, Bow opened. -/
set_option linter.unusedVariables false
set_option linter.unusedSimpArgs false
namespace Go.Sx
open Go.Proofs
set_option maxRecDepth 100000
theorem opens_String : Opens prg rString ((([T_sl_float32] ++ ([T_int64])) ++ (([T_int64] ++ (((List.replicate 3 [T_float32]).flatten) ++ (((List.replicate 2 [T_float32]).flatten)))) ++ (([T_int64] ++ (((List.replicate 3 [T_float32]).flatten) ++ (((List.replicate 2 [T_float32]).flatten)))) ++ ([T_float32]))))) := opens_via (fun p => ⟨p.1, p.2.1, p.2.2.1, p.2.2.2⟩) (fun _ => rfl) (opens_seq opens_Ring (opens_seq opens_Filter (opens_seq opens_Filter ((opens_float U_float32)))))
theorem opens_Bow : Opens prg rBow ((([T_sl_float32] ++ ([T_int64])) ++ (([T_sl_float32] ++ ([T_int64])) ++ (([T_int64] ++ (((List.replicate 3 [T_float32]).flatten) ++ (((List.replicate 2 [T_float32]).flatten)))) ++ ([T_float32] ++ ([T_float32])))))) := opens_via (fun p => ⟨p.1, p.2.1, p.2.2.1, p.2.2.2.1, p.2.2.2.2⟩) (fun _ => rfl) (opens_seq opens_Ring (opens_seq opens_Ring (opens_seq opens_Filter (opens_seq (opens_float U_float32) ((opens_float U_float32))))))
end Go.Sx
/- Given Tuning, Instrument, Event, Score opened. -/
set_option linter.unusedVariables false
set_option linter.unusedSimpArgs false
namespace Go.Sx
open Go.Proofs
set_option maxRecDepth 100000
theorem opens_Tuning : Opens prg rTuning (([T_float32] ++ ([T_float32] ++ ([T_sl_float32])))) := opens_via (fun p => ⟨p.1, p.2.1, p.2.2⟩) (fun _ => rfl) (opens_seq (opens_float U_float32) (opens_seq (opens_float U_float32) ((opens_sl (n := 9) (U_sl_float32) (by kernel_rfl) (by kernel_rfl) (opens_float U_float32)))))
theorem opens_Instrument : Opens prg rInstrument (([T_string] ++ ([T_int64] ++ ([T_float32] ++ ([T_float32] ++ ([T_float32])))))) := opens_via (fun p => ⟨p.1, p.2.1, p.2.2.1, p.2.2.2.1, p.2.2.2.2⟩) (fun _ => rfl) (opens_seq (opens_str U_string) (opens_seq (opens_int U_int64) (opens_seq (opens_float U_float32) (opens_seq (opens_float U_float32) ((opens_float U_float32))))))
theorem opens_Event : Opens prg rEvent (([T_int64] ++ ([T_int64] ++ ([T_int64] ++ ([T_int64] ++ ([T_int64] ++ ([T_float32]))))))) := opens_via (fun p => ⟨p.1, p.2.1, p.2.2.1, p.2.2.2.1, p.2.2.2.2.1, p.2.2.2.2.2⟩) (fun _ => rfl) (opens_seq (opens_int U_int64) (opens_seq (opens_int U_int64) (opens_seq (opens_int U_int64) (opens_seq (opens_int U_int64) (opens_seq (opens_int U_int64) ((opens_float U_float32)))))))
theorem opens_Score : Opens prg rScore (([T_float32] ++ (([T_float32] ++ ([T_float32] ++ ([T_sl_float32]))) ++ ([T_sl_laws_Instrument] ++ ([T_sl_laws_Event]))))) := opens_via (fun p => ⟨p.1, p.2.1, p.2.2.1, p.2.2.2⟩) (fun _ => rfl) (opens_seq (opens_float U_float32) (opens_seq opens_Tuning (opens_seq (opens_sl (n := 9) (U_sl_laws_Instrument) (by kernel_rfl) (by kernel_rfl) opens_Instrument) ((opens_sl (n := 9) (U_sl_laws_Event) (by kernel_rfl) (by kernel_rfl) opens_Event)))))
end Go.Sx
/- Given Voice, Player opened. -/
set_option linter.unusedVariables false
set_option linter.unusedSimpArgs false
namespace Go.Sx
open Go.Proofs
set_option maxRecDepth 100000
theorem opens_Voice : Opens prg rVoice (([T_int64] ++ ([T_int64] ++ ([T_int64] ++ ([T_bool] ++ ([T_float32] ++ ((([T_sl_float32] ++ ([T_int64])) ++ (([T_int64] ++ (((List.replicate 3 [T_float32]).flatten) ++ (((List.replicate 2 [T_float32]).flatten)))) ++ (([T_int64] ++ (((List.replicate 3 [T_float32]).flatten) ++ (((List.replicate 2 [T_float32]).flatten)))) ++ ([T_float32])))) ++ (([T_sl_laws_Ring] ++ ([T_sl_laws_Ring] ++ ([T_sl_float32] ++ (([T_int64] ++ (((List.replicate 3 [T_float32]).flatten) ++ (((List.replicate 2 [T_float32]).flatten)))) ++ ([T_bool] ++ ([T_float32] ++ ([T_float32] ++ ([T_float32])))))))) ++ ((([T_sl_float32] ++ ([T_int64])) ++ (([T_sl_float32] ++ ([T_int64])) ++ (([T_int64] ++ (((List.replicate 3 [T_float32]).flatten) ++ (((List.replicate 2 [T_float32]).flatten)))) ++ ([T_float32] ++ ([T_float32])))))))))))))) := opens_via (fun p => ⟨p.1, p.2.1, p.2.2.1, p.2.2.2.1, p.2.2.2.2.1, p.2.2.2.2.2.1, p.2.2.2.2.2.2.1, p.2.2.2.2.2.2.2⟩) (fun _ => rfl) (opens_seq (opens_int U_int64) (opens_seq (opens_int U_int64) (opens_seq (opens_int U_int64) (opens_seq (opens_bool U_bool) (opens_seq (opens_float U_float32) (opens_seq opens_String (opens_seq opens_Pipe (opens_Bow))))))))
theorem opens_Player : Opens prg rPlayer ((([T_float32] ++ (([T_float32] ++ ([T_float32] ++ ([T_sl_float32]))) ++ ([T_sl_laws_Instrument] ++ ([T_sl_laws_Event])))) ++ ([T_sl_laws_Voice] ++ ([T_int64] ++ ([T_int64] ++ ([T_int64])))))) := opens_via (fun p => ⟨p.1, p.2.1, p.2.2.1, p.2.2.2.1, p.2.2.2.2⟩) (fun _ => rfl) (opens_seq opens_Score (opens_seq (opens_sl (n := 9) (U_sl_laws_Voice) (by kernel_rfl) (by kernel_rfl) opens_Voice) (opens_seq (opens_int U_int64) (opens_seq (opens_int U_int64) ((opens_int U_int64))))))
end Go.Sx
