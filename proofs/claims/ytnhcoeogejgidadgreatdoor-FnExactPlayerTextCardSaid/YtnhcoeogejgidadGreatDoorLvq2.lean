/- Players told, as a whole. -/
import Derived.Test.YtnhcoeogejgidadGreatDoorLvq
import Derived.Test.YtnhcoeogejgidadGreatDoorTab
import Derived.Test.YtnhcoeogejgidadGreatDoorLh4
import Derived.Test.YtnhcoeogejgidadGreatDoorLgw
import Derived.Test.YtnhcoeogejgidadGreatDoorLk45
import Derived.Test.YtnhcoeogejgidadGreatDoorTabE
import Derived.Test.YtnhcoeogejgidadGreatDoorLr3
import Derived.Test.YtnhcoeogejgidadGreatDoorLr4
import Derived.Test.YtnhcoeogejgidadGreatDoorLr7
import Derived.Test.YtnhcoeogejgidadGreatDoorLx1
import Derived.Lib.LaidTab
import Derived.Test.YtnhcoeogejgidadGreatDoorTF
set_option linter.unusedVariables false
set_option linter.unusedSimpArgs false
namespace Go.Sx
open Go.Proofs
set_option maxRecDepth 100000
set_option maxHeartbeats 1000000

section
variable {h : Heap} {cs : Array Value}
theorem voices_read {p : GPlayer} {hh : Heap} {b : Option Addr} {l c : Nat} (S : SlR rVoice hh b l c p.Voices) (hok : p.ok = true) : ∀ v ∈ p.Voices, voiceOk p.Score v = true ∧ ∃ (hh : Heap) (q : Addr), RdP rVoice hh q v := fun v hv => by
  obtain ⟨i, hi, e⟩ := List.mem_iff_getElem.1 hv
  obtain ⟨a, _, Ra⟩ := S.elem (i := i) (by have := S.len; omega) (by decide)
  exact ⟨voices_ok hok hv, hh, _, by rw [← e, ← getElem!_pos p.Voices i hi]; exact Ra⟩
theorem spec_PlayerText_c {p : GPlayer} (R0 : rPlayer.rd h cs.toList p) : CALL prg f_spec_PlayerText #[.agg cs] (fun u h' => u = .string p.text ∧ Ext h h') h := by
  refine spec_PlayerText.call (alcR R0 fun g h1 x1 R => goX (l09Ok_c R) fun h2 x2 => as_b (brN (fun hb => ⟨by unfold GPlayer.text; rw [hb]; rfl, x1.trans x2⟩) fun hok => ?_))
  have R := R.ext x2
  obtain ⟨hs, hv6, f1, f2, f3⟩ := player_facts hok
  obtain ⟨n, e1⟩ : ∃ n : Nat, p.Now = (n : Int) := ⟨p.Now.toNat, by omega⟩
  obtain ⟨m, e2⟩ : ∃ n : Nat, p.Next = (n : Int) := ⟨p.Next.toNat, by omega⟩
  obtain ⟨k, e3⟩ : ∃ n : Nat, p.Skipped = (n : Int) := ⟨p.Skipped.toNat, by omega⟩
  have d1 := dec_le (n := n) (k := 9) (by omega)
  have d2 := dec_le (n := m) (k := 9) (by omega)
  have d3 := dec_le (n := k) (k := 9) (by omega)
  have lp : playerW.length = 6 := rfl
  refine R.oI2 (R.oI2 (R.oI2 ?_))
  rw [e1, e2, e3, e10, e32, show (⟨#[112, 108, 97, 121, 101, 114, 32]⟩ : ByteArray) = mkB (playerW ++ [32]) from rfl]
  have PN : ∀ (off n : Nat) {hh : Heap} {p : Prop}, off + n ≤ rPlayer.sz → Ext h2 hh → p → PIN h2 ⟨g, off, none⟩ n hh p := fun off n {hh p} hj X H => by
    have q1 := R.pinO (off := off) (n := n) hj X H
    rwa [add_g] at q1
  refine (spec_Decimal_c n (by omega)).go fun h3 x3 => as_s (PN 9 1 (by decide) x3 (PN 8 1 (by decide) x3 ?_))
  rw [decB_mk]
  simp only [mkB_app]
  refine ⟨by simp only [mk_size, List.length_append, List.length_cons, List.length_nil]; omega, by simp only [mk_size, List.length_append, List.length_cons, List.length_nil]; omega, ?_⟩
  refine (spec_Decimal_c m (by omega)).go fun h4 x4 => as_s (PN 9 1 (by decide) (x3.trans x4) ?_)
  rw [decB_mk]
  simp only [mkB_app]
  refine ⟨by simp only [mk_size, List.length_append, List.length_cons, List.length_nil]; omega, by simp only [mk_size, List.length_append, List.length_cons, List.length_nil]; omega, ?_⟩
  refine (spec_Decimal_c k (by omega)).go fun h5 x5 => as_s ?_
  rw [decB_mk]
  simp only [mkB_app]
  refine ⟨by simp only [mk_size, List.length_append, List.length_cons, List.length_nil]; omega, by simp only [mk_size, List.length_append, List.length_cons, List.length_nil]; omega, ?_⟩
  have eW : playerW ++ [32] ++ Lib.decDigits n ++ [32] ++ Lib.decDigits m ++ [32] ++ Lib.decDigits k = headP p := by rw [headP_eq, e1, e2, e3]; rfl
  rw [eW]
  have lH : (headP p).length ≤ 60 := by rw [← eW]; simp only [List.length_append, List.length_cons, List.length_nil]; omega
  have X5 := x3.trans (x4.trans x5)
  refine loop (fun y hh => ∃ i : Nat, y = (⟨g, 0, none⟩, mkB (headP p ++ [10] ++ linL (voicesL p.Score (p.Voices.take i))), (i : Int)) ∧ i ≤ p.Voices.length ∧ Ext h2 hh) (fun y => ((p.Voices.length : Int) - y.2.2).toNat) ⟨0, by simp [voicesL, linL], by omega, X5⟩ ?_
  rintro y hh ⟨i, rfl, hi, X⟩
  have R := R.ext X
  refine R.oL (off := 6) fun b l c S => ?_
  have el : p.Voices.length = l := S.len
  refine brd (fun hc => ?_) fun hc => ?_
  · have hvl := voices_len (vs := p.Voices.take i) hs fun v hv => voices_read S hok v (List.mem_of_mem_take hv)
    have ht : (p.Voices.take i).length ≤ 6 := by rw [List.length_take]; omega
    have hvl1 := voices_len (vs := [p.Voices[i]!]) hs fun v hv => voices_read S hok v (by rw [List.mem_singleton] at hv; rw [hv]; exact mem_get (by omega))
    have ev1 : voicesL p.Score [p.Voices[i]!] = p.Voices[i]!.lines (kindOf p.Score p.Voices[i]!) := by unfold voicesL; simp
    rw [ev1] at hvl1
    simp only [List.length_cons, List.length_nil] at hvl1
    refine R.oL (off := 6) fun b' l' c' S' => ?_
    have el' : p.Voices.length = l' := S'.len
    refine S'.idn (by decide) (show i < l' by omega) fun a Ra => goE X (l09VoiceText_c (R.foc0 foc_Player_Score) Ra hs (voices_ok hok (mem_get (by omega)))) fun h7 x7 => as_s ?_
    rw [mkB_app]
    refine ⟨by simp only [mk_size, List.length_append, List.length_cons, List.length_nil]; omega, ⟨i + 1, ?_, by omega, x7⟩, by rw [wrap64_succ (by omega)]; show ((p.Voices.length : Int) - ((i + 1 : Nat) : Int)).toNat < ((p.Voices.length : Int) - (i : Int)).toNat; omega⟩
    rw [wrap64_succ (by omega), voicesL_snoc _ _ (by omega), lin_app, List.append_assoc]
  · obtain rfl : i = p.Voices.length := by omega
    refine ⟨?_, x1.trans (x2.trans X)⟩
    unfold GPlayer.text
    rw [if_pos hok, List.take_length]
    congr 2
    unfold GPlayer.lines
    simp [linL]
theorem PlayerText_c {p : GPlayer} (R0 : rPlayer.rd h cs.toList p) (T0 : TxW h) : CALL prg f_impl_PlayerText #[.agg cs] (fun u h' => u = .string p.text ∧ Ext h h') h := by
  refine impl_PlayerText.call (alcR R0 fun g h1 x1 R => R.lda1 rfl fun c1 R1 => goX (ValidPlayer_c R1) fun h2 x2 => as_b (brN (fun hb => ⟨by unfold GPlayer.text; rw [hb]; rfl, x1.trans x2⟩) fun hok => ?_))
  have R := R.ext x2
  have T := T0.ext (x1.trans x2)
  obtain ⟨hs, hv6, f1, f2, f3⟩ := player_facts hok
  obtain ⟨n, e1⟩ : ∃ n : Nat, p.Now = (n : Int) := ⟨p.Now.toNat, by omega⟩
  obtain ⟨m, e2⟩ : ∃ n : Nat, p.Next = (n : Int) := ⟨p.Next.toNat, by omega⟩
  obtain ⟨k, e3⟩ : ∃ n : Nat, p.Skipped = (n : Int) := ⟨p.Skipped.toNat, by omega⟩
  have d1 := dec_le (n := n) (k := 9) (by omega)
  have d2 := dec_le (n := m) (k := 9) (by omega)
  have d3 := dec_le (n := k) (k := 9) (by omega)
  have lp : playerW.length = 6 := rfl
  refine R.oI2 (R.oI2 (R.oI2 ?_))
  rw [e1, e2, e3, e10, e32, show (⟨#[112, 108, 97, 121, 101, 114, 32]⟩ : ByteArray) = mkB (playerW ++ [32]) from rfl]
  have PN : ∀ (off n : Nat) {hh : Heap} {p : Prop}, off + n ≤ rPlayer.sz → Ext h2 hh → p → PIN h2 ⟨g, off, none⟩ n hh p := fun off n {hh p} hj X H => by
    have q1 := R.pinO (off := off) (n := n) hj X H
    rwa [add_g] at q1
  refine goX (decimal_c (m := n) (by omega) T.tens) fun h3 x3 => as_s (PN 9 1 (by decide) x3 (PN 8 1 (by decide) x3 ?_))
  rw [decB_mk]
  simp only [mkB_app]
  refine ⟨by simp only [mk_size, List.length_append, List.length_cons, List.length_nil]; omega, by simp only [mk_size, List.length_append, List.length_cons, List.length_nil]; omega, ?_⟩
  refine goX (decimal_c (m := m) (by omega) (T.ext x3).tens) fun h4 x4 => as_s (PN 9 1 (by decide) (x3.trans x4) ?_)
  rw [decB_mk]
  simp only [mkB_app]
  refine ⟨by simp only [mk_size, List.length_append, List.length_cons, List.length_nil]; omega, by simp only [mk_size, List.length_append, List.length_cons, List.length_nil]; omega, ?_⟩
  refine goX (decimal_c (m := k) (by omega) (T.ext (x3.trans x4)).tens) fun h5 x5 => as_s ?_
  rw [decB_mk]
  simp only [mkB_app]
  refine ⟨by simp only [mk_size, List.length_append, List.length_cons, List.length_nil]; omega, by simp only [mk_size, List.length_append, List.length_cons, List.length_nil]; omega, ?_⟩
  have eW : playerW ++ [32] ++ Lib.decDigits n ++ [32] ++ Lib.decDigits m ++ [32] ++ Lib.decDigits k = headP p := by rw [headP_eq, e1, e2, e3]; rfl
  rw [eW]
  have lH : (headP p).length ≤ 60 := by rw [← eW]; simp only [List.length_append, List.length_cons, List.length_nil]; omega
  have X5 := x3.trans (x4.trans x5)
  refine (R.ext X5).oL2 (off := 6) fun b l c S => ?_
  have el : p.Voices.length = l := S.len
  refine loop (fun y hh => ∃ i : Nat, y = (⟨g, 0, none⟩, mkB (headP p ++ [10] ++ linL (voicesL p.Score (p.Voices.take i))), b, l, c, (l : Int), (i : Int)) ∧ i ≤ l ∧ Ext h5 hh) (fun y => ((l : Int) - y.2.2.2.2.2.2).toNat) ⟨0, by simp [voicesL, linL], by omega, Ext.refl _⟩ ?_
  rintro y hh ⟨i, rfl, hi, X⟩
  have R := R.ext (X5.trans X)
  have T := T.ext (X5.trans X)
  have S := S.ext X
  refine brd (fun hc => ?_) fun hc => ?_
  · have hvl := voices_len (vs := p.Voices.take i) hs fun v hv => voices_read S hok v (List.mem_of_mem_take hv)
    have ht : (p.Voices.take i).length ≤ 6 := by rw [List.length_take]; omega
    have hvl1 := voices_len (vs := [p.Voices[i]!]) hs fun v hv => voices_read S hok v (by rw [List.mem_singleton] at hv; rw [hv]; exact mem_get (by omega))
    have ev1 : voicesL p.Score [p.Voices[i]!] = p.Voices[i]!.lines (kindOf p.Score p.Voices[i]!) := by unfold voicesL; simp
    rw [ev1] at hvl1
    simp only [List.length_cons, List.length_nil] at hvl1
    have hvo := voices_ok hok (mem_get (l := p.Voices) (i := i) (by omega))
    have next : ∀ {h7 : Heap} {L : List (List UInt8)}, L = p.Voices[i]!.lines (kindOf p.Score p.Voices[i]!) → Ext h5 h7 →
        (((mkB (headP p ++ [10] ++ linL (voicesL p.Score (p.Voices.take i)))).size + (mkB (linL L)).size : Nat) : Int) ≤ 9223372036854775807 ∧
        ((∃ i' : Nat, ((⟨g, 0, none⟩ : Addr), mkB (headP p ++ [10] ++ linL (voicesL p.Score (p.Voices.take i))) ++ mkB (linL L), b, l, c, (l : Int), IntKind.i64.wrap ((i : Int) + 1)) = (⟨g, 0, none⟩, mkB (headP p ++ [10] ++ linL (voicesL p.Score (p.Voices.take i'))), b, l, c, (l : Int), (i' : Int)) ∧ i' ≤ l ∧ Ext h5 h7) ∧
        ((l : Int) - IntKind.i64.wrap ((i : Int) + 1)).toNat < ((l : Int) - (i : Int)).toNat) := fun {h7 L} e x7 => by
      subst e
      rw [mkB_app]
      refine ⟨by simp only [mk_size, List.length_append, List.length_cons, List.length_nil]; omega, ⟨i + 1, ?_, by omega, x7⟩, by rw [wrap64_succ (by omega)]; omega⟩
      rw [wrap64_succ (by omega), voicesL_snoc _ _ (by omega), lin_app]
      simp
    refine S.idn (by decide) (show i < l by omega) fun a Ra => Ra.lda1 rfl fun cv Rv => localR Rv rfl rfl fun g2 h8 x8 V => V.lda1 rfl fun c2 R2 => goX (isFree_c R2) fun h9 x9 => as_b (br (fun hn => ?_) fun hn => ?_)
    · have hn : p.Voices[i]!.Note = -1 := by simpa using hn
      exact next (L := [freeW]) (by unfold GVoice.lines; rw [if_pos hn]) (X.trans (x8.trans x9))
    · have hn : ¬ p.Voices[i]!.Note = -1 := by simpa using hn
      have F := voice_facts hs hvo hn
      obtain ⟨j, ej⟩ : ∃ n : Nat, p.Voices[i]!.Instrument = (n : Int) := ⟨p.Voices[i]!.Instrument.toNat, by have := F.i0; omega⟩
      have f3 := F.i1
      have V := V.ext x9
      refine V.lda1 rfl fun c3 R3 => (R.ext (x8.trans x9)).oL (off := 4) fun b4 l4 c4 S4 => V.oI2 ?_
      have e4 : p.Score.Instruments.length = l4 := S4.len
      rw [ej]
      refine S4.idn (by decide) (by omega) fun ai Ri => Ri.oI ?_
      have ek : p.Score.Instruments[j]!.Kind = kindOf p.Score p.Voices[i]! := by unfold kindOf; rw [ej]; rfl
      rw [ek]
      exact goX (voiceText_c R3 hs hvo hn (T.ext (x8.trans x9))) fun h10 x10 => as_s (next rfl (X.trans (x8.trans (x9.trans x10))))
  · obtain rfl : i = l := by omega
    refine ⟨?_, x1.trans (x2.trans (X5.trans X))⟩
    unfold GPlayer.text
    rw [if_pos hok, ← el, List.take_length]
    congr 2
    unfold GPlayer.lines
    simp [linL]
end
end Go.Sx
/- What functions of this seat's program compute, told in words (a predicate over heaps for each), and the proofs that the words are no more than the code's own weakest precondition. -/
namespace Go.Sx
open Go.Proofs
set_option linter.unusedVariables false
set_option maxRecDepth 100000

def laws_FnExactPlayerText.S (aP_0 : Array Value) (Post : Value → Heap → Prop) (h : Heap) : Prop :=
    ALC aP_0 T_laws_Player (fun g1 h2 =>
    LDA 10 h2 ⟨g1, 0, none⟩ fun a3 =>
    CALL prg f_laws_szPlayer #[.agg a3, .int .i64 (1048576 : Int)] (fun q4 h5 =>
    asI .i64 q4 fun n6 =>
    BIF ((decide (n6 < (0 : Int)))) (
    Post (.bool true) h5) (
    LDA 10 h5 ⟨g1, 0, none⟩ fun a7 =>
    CALL prg f_laws_toPlayer #[.agg a7] (fun q8 h9 =>
    asA q8 fun a10 =>
    CALL prg f_spec_PlayerText #[.agg a10] (fun q11 h12 =>
    asS q11 fun s13 =>
    LDA 10 h12 ⟨g1, 0, none⟩ fun a14 =>
    CALL prg f_laws_toPlayer #[.agg a14] (fun q15 h16 =>
    asA q15 fun a17 =>
    ALC ⟨Z_impl_Player⟩ T_impl_Player (fun g18 h19 =>
    STA 10 h19 ⟨g18, 0, none⟩ a17 fun h20 =>
    LDA 10 h20 ⟨g18, 0, none⟩ fun a21 =>
    CALL prg f_impl_PlayerText #[.agg a21] (fun q22 h23 =>
    asS q22 fun s24 =>
    BIF (!(ByteArray.toList s24 == ByteArray.toList s13)) (
    Post (.bool false) h23) (
    LDA 10 h23 ⟨g18, 0, none⟩ fun a25 =>
    LDA 10 h23 ⟨g1, 0, none⟩ fun a26 =>
    CALL prg f_laws_toPlayer #[.agg a26] (fun q27 h28 =>
    asA q27 fun a29 =>
    PIN h23 ⟨g18, 0, none⟩ 10 h28 <|
    CALL prg f_laws_eqPlayer #[.agg a25, .agg a29] (fun q30 h31 =>
    asB q30 fun b32 =>
    BIF (!b32) (
    Post (.bool false) h31) (
    Post (.bool true) h31)) h28) h23)) h20) h16) h12) h9) h5)) h2) h
noncomputable def laws_FnExactPlayerText.code : Code := (Tryz.f3.body).getD .skip
theorem laws_FnExactPlayerText.call {aP_0 : Array Value} {Post : Value → Heap → Prop} {h : Heap} (H : laws_FnExactPlayerText.S aP_0 Post h) : CALL prg f_laws_FnExactPlayerText #[.agg aP_0] Post h :=
  fn_call tau_ok mixed (c := laws_FnExactPlayerText.code) (Λ := lookL []) Tryz.func3 (by kernel_rfl) (by kernel_rfl)
    (Rq.free (by kernel_rfl))
    (Eq.mp (by kernel_rfl) H)

end Go.Sx
/- The law FnExactPlayerText, as the program tells it. -/
set_option linter.unusedVariables false
set_option linter.unusedSimpArgs false
namespace Go.Sx
open Go.Proofs
set_option maxRecDepth 100000
set_option maxHeartbeats 1000000

section
variable {h : Heap}
theorem FnExactPlayerText_c {cs : Array Value} {x : GPlayer} (T : TxW h) (R0 : rPlayer.rd h cs.toList x) : CALL prg f_laws_FnExactPlayerText #[.agg cs] (fun u h' => u = .bool true ∧ Ext h h') h := by
  refine laws_FnExactPlayerText.call ((Mem.start h).alc fun g1 h1 x1 M => M.lda0 .here (rsz R0 rfl) (goM M (sz_Player_c (rPlayer.ext M.ext R0) 1048576 (by omega) : CALL prg f_laws_szPlayer #[.agg cs, .int .i64 (1048576 : Int)] _ _) fun h2 M => as_i (br (fun hb => ⟨rfl, M.ext⟩) fun hb => ?_)))
  have hw : w_Player x ≤ 1048576 := by
    unfold subW at hb
    split at hb
    · simp at hb
    · omega
  refine M.lda0 .here (rsz R0 rfl) (NewR.go M (to_Player_c (rPlayer.ext M.ext R0) hw) fun h3 c3 B3 M O3 s3 => as_a ?_)
  refine goM M (spec_PlayerText_c (rPlayer.look O3 M (List.sublist_append_left _ _))) fun h4 M => as_s ?_
  refine M.lda0 (Look.skip .here) (rsz R0 rfl) (NewR.go M (to_Player_c (rPlayer.ext M.ext R0) hw) fun h5 c5 B5 M O5 s5 => as_a (M.alc fun g6 h6 x6 M => M.sta0 .here s5 (rPlayer.oone O5) rfl .here fun h7 M => M.lda0 .here s5 ?_))
  refine goM M (PlayerText_c (rPlayer.look O5 M ((List.sublist_append_left _ _).trans (List.sublist_cons_self _ _))) (T.ext M.ext)) fun h8 M => as_s (br_f (by simp) ?_)
  refine M.lda0 .here s5 (M.lda0 (.there (Look.skip (Look.skip .here))) (rsz R0 rfl) ((to_Player_c (rPlayer.ext M.ext R0) hw).mono ?_))
  rintro _ h9 ⟨c9, B9, rfl, O9, N⟩
  refine as_a (pinM M .here (M.grow N.ext) .here ?_)
  have R5 := rPlayer.look O5 (M.grow N.ext) ((List.sublist_append_left _ _).trans (List.sublist_cons_self _ _))
  have M := M.join N
  refine goM M (eq_Player_c R5 (rPlayer.look O9 M (List.sublist_append_left _ _))) fun h10 M => as_b (bne_br rfl ⟨rfl, M.ext⟩)
end
end Go.Sx
/- Given Ring, Filter opened. -/
set_option linter.unusedVariables false
set_option linter.unusedSimpArgs false
namespace Go.Sx
open Go.Proofs
set_option maxRecDepth 100000
theorem opens_Ring : Opens prg rRing (([T_sl_float32] ++ ([T_int64]))) := opens_via (fun p => ⟨p.1, p.2⟩) (fun _ => rfl) (opens_seq (opens_sl (n := 9) (U_sl_float32) (by kernel_rfl) (by kernel_rfl) (opens_float U_float32)) ((opens_int U_int64)))
theorem opens_Filter : Opens prg rFilter (([T_int64] ++ (((List.replicate 3 [T_float32]).flatten) ++ (((List.replicate 2 [T_float32]).flatten))))) := opens_via (fun p => ⟨p.1, p.2.1, p.2.2⟩) (fun _ => rfl) (opens_seq (opens_int U_int64) (opens_seq (opens_arr 3 (opens_float U_float32)) ((opens_arr 2 (opens_float U_float32)))))
end Go.Sx
/- Given Pipe opened. -/
set_option linter.unusedVariables false
set_option linter.unusedSimpArgs false
namespace Go.Sx
open Go.Proofs
set_option maxRecDepth 100000
theorem opens_Pipe : Opens prg rPipe (([T_sl_laws_Ring] ++ ([T_sl_laws_Ring] ++ ([T_sl_float32] ++ (([T_int64] ++ (((List.replicate 3 [T_float32]).flatten) ++ (((List.replicate 2 [T_float32]).flatten)))) ++ ([T_bool] ++ ([T_float32] ++ ([T_float32] ++ ([T_float32]))))))))) := opens_via (fun p => ⟨p.1, p.2.1, p.2.2.1, p.2.2.2.1, p.2.2.2.2.1, p.2.2.2.2.2.1, p.2.2.2.2.2.2.1, p.2.2.2.2.2.2.2⟩) (fun _ => rfl) (opens_seq (opens_sl (n := 9) (U_sl_laws_Ring) (by kernel_rfl) (by kernel_rfl) opens_Ring) (opens_seq (opens_sl (n := 9) (U_sl_laws_Ring) (by kernel_rfl) (by kernel_rfl) opens_Ring) (opens_seq (opens_sl (n := 9) (U_sl_float32) (by kernel_rfl) (by kernel_rfl) (opens_float U_float32)) (opens_seq opens_Filter (opens_seq (opens_bool U_bool) (opens_seq (opens_float U_float32) (opens_seq (opens_float U_float32) ((opens_float U_float32)))))))))
end Go.Sx
/- Given String, Bow opened. -/
set_option linter.unusedVariables false
set_option linter.unusedSimpArgs false
namespace Go.Sx
open Go.Proofs
set_option maxRecDepth 100000
theorem opens_String : Opens prg rString ((([T_sl_float32] ++ ([T_int64])) ++ (([T_int64] ++ (((List.replicate 3 [T_float32]).flatten) ++ (((List.replicate 2 [T_float32]).flatten)))) ++ (([T_int64] ++ (((List.replicate 3 [T_float32]).flatten) ++ (((List.replicate 2 [T_float32]).flatten)))) ++ ([T_float32]))))) := opens_via (fun p => ⟨p.1, p.2.1, p.2.2.1, p.2.2.2⟩) (fun _ => rfl) (opens_seq opens_Ring (opens_seq opens_Filter (opens_seq opens_Filter ((opens_float U_float32)))))
theorem opens_Bow : Opens prg rBow ((([T_sl_float32] ++ ([T_int64])) ++ (([T_sl_float32] ++ ([T_int64])) ++ (([T_int64] ++ (((List.replicate 3 [T_float32]).flatten) ++ (((List.replicate 2 [T_float32]).flatten)))) ++ ([T_float32] ++ ([T_float32])))))) := opens_via (fun p => ⟨p.1, p.2.1, p.2.2.1, p.2.2.2.1, p.2.2.2.2⟩) (fun _ => rfl) (opens_seq opens_Ring (opens_seq opens_Ring (opens_seq opens_Filter (opens_seq (opens_float U_float32) ((opens_float U_float32))))))
end Go.Sx
/- Given Tuning, Instrument, Event, Score opened. -/
set_option linter.unusedVariables false
set_option linter.unusedSimpArgs false
namespace Go.Sx
open Go.Proofs
set_option maxRecDepth 100000
theorem opens_Tuning : Opens prg rTuning (([T_float32] ++ ([T_float32] ++ ([T_sl_float32])))) := opens_via (fun p => ⟨p.1, p.2.1, p.2.2⟩) (fun _ => rfl) (opens_seq (opens_float U_float32) (opens_seq (opens_float U_float32) ((opens_sl (n := 9) (U_sl_float32) (by kernel_rfl) (by kernel_rfl) (opens_float U_float32)))))
theorem opens_Instrument : Opens prg rInstrument (([T_string] ++ ([T_int64] ++ ([T_float32] ++ ([T_float32] ++ ([T_float32])))))) := opens_via (fun p => ⟨p.1, p.2.1, p.2.2.1, p.2.2.2.1, p.2.2.2.2⟩) (fun _ => rfl) (opens_seq (opens_str U_string) (opens_seq (opens_int U_int64) (opens_seq (opens_float U_float32) (opens_seq (opens_float U_float32) ((opens_float U_float32))))))
theorem opens_Event : Opens prg rEvent (([T_int64] ++ ([T_int64] ++ ([T_int64] ++ ([T_int64] ++ ([T_int64] ++ ([T_float32]))))))) := opens_via (fun p => ⟨p.1, p.2.1, p.2.2.1, p.2.2.2.1, p.2.2.2.2.1, p.2.2.2.2.2⟩) (fun _ => rfl) (opens_seq (opens_int U_int64) (opens_seq (opens_int U_int64) (opens_seq (opens_int U_int64) (opens_seq (opens_int U_int64) (opens_seq (opens_int U_int64) ((opens_float U_float32)))))))
theorem opens_Score : Opens prg rScore (([T_float32] ++ (([T_float32] ++ ([T_float32] ++ ([T_sl_float32]))) ++ ([T_sl_laws_Instrument] ++ ([T_sl_laws_Event]))))) := opens_via (fun p => ⟨p.1, p.2.1, p.2.2.1, p.2.2.2⟩) (fun _ => rfl) (opens_seq (opens_float U_float32) (opens_seq opens_Tuning (opens_seq (opens_sl (n := 9) (U_sl_laws_Instrument) (by kernel_rfl) (by kernel_rfl) opens_Instrument) ((opens_sl (n := 9) (U_sl_laws_Event) (by kernel_rfl) (by kernel_rfl) opens_Event)))))
end Go.Sx
/- Given Voice, Player opened. -/
set_option linter.unusedVariables false
set_option linter.unusedSimpArgs false
namespace Go.Sx
open Go.Proofs
set_option maxRecDepth 100000
theorem opens_Voice : Opens prg rVoice (([T_int64] ++ ([T_int64] ++ ([T_int64] ++ ([T_bool] ++ ([T_float32] ++ ((([T_sl_float32] ++ ([T_int64])) ++ (([T_int64] ++ (((List.replicate 3 [T_float32]).flatten) ++ (((List.replicate 2 [T_float32]).flatten)))) ++ (([T_int64] ++ (((List.replicate 3 [T_float32]).flatten) ++ (((List.replicate 2 [T_float32]).flatten)))) ++ ([T_float32])))) ++ (([T_sl_laws_Ring] ++ ([T_sl_laws_Ring] ++ ([T_sl_float32] ++ (([T_int64] ++ (((List.replicate 3 [T_float32]).flatten) ++ (((List.replicate 2 [T_float32]).flatten)))) ++ ([T_bool] ++ ([T_float32] ++ ([T_float32] ++ ([T_float32])))))))) ++ ((([T_sl_float32] ++ ([T_int64])) ++ (([T_sl_float32] ++ ([T_int64])) ++ (([T_int64] ++ (((List.replicate 3 [T_float32]).flatten) ++ (((List.replicate 2 [T_float32]).flatten)))) ++ ([T_float32] ++ ([T_float32])))))))))))))) := opens_via (fun p => ⟨p.1, p.2.1, p.2.2.1, p.2.2.2.1, p.2.2.2.2.1, p.2.2.2.2.2.1, p.2.2.2.2.2.2.1, p.2.2.2.2.2.2.2⟩) (fun _ => rfl) (opens_seq (opens_int U_int64) (opens_seq (opens_int U_int64) (opens_seq (opens_int U_int64) (opens_seq (opens_bool U_bool) (opens_seq (opens_float U_float32) (opens_seq opens_String (opens_seq opens_Pipe (opens_Bow))))))))
theorem opens_Player : Opens prg rPlayer ((([T_float32] ++ (([T_float32] ++ ([T_float32] ++ ([T_sl_float32]))) ++ ([T_sl_laws_Instrument] ++ ([T_sl_laws_Event])))) ++ ([T_sl_laws_Voice] ++ ([T_int64] ++ ([T_int64] ++ ([T_int64])))))) := opens_via (fun p => ⟨p.1, p.2.1, p.2.2.1, p.2.2.2.1, p.2.2.2.2⟩) (fun _ => rfl) (opens_seq opens_Score (opens_seq (opens_sl (n := 9) (U_sl_laws_Voice) (by kernel_rfl) (by kernel_rfl) opens_Voice) (opens_seq (opens_int U_int64) (opens_seq (opens_int U_int64) ((opens_int U_int64))))))
end Go.Sx
/- From what a law's call answers to the given row, where the row lists tables that the call reads. -/
namespace Go.Sx
open Go.ChangeShapes Go.WideShapes Go.ChangeAt Go.RowKit
set_option linter.unusedVariables false
/-- The same, where the call finds the program's variables as their types have them. -/
theorem law_returns_libs {H : Type} {enc : TypeId × Value → H} {C : Checked} {os : Os} {f : FuncId} {fn : Func} {s : ChangeSpec} {conds : List PathCond} {tb : TypeId} {laidL : List (String × DataW Unit)}
    (own : ownKnob C.prog.godebug = none) (started : os.Started) (noInit : C.prog.inits.idxOf? f = none) (hfn : C.prog.funcs[f]? = some fn) (hb : fn.body.isNone = false)
    (hn : (fn.name == "runtime.NumGoroutine") = false) (hvars : s.vars = []) (hspec : ∀ ds : List (DataW H), ds.length = fn.params.toList.length → s.fn H ds = { results := [.lit (.bool true)], args := ds })
    (hres : fn.resultTypes = #[tb]) (htb : C.prog.underlying tb = some .bool) (laid : laidOutB C.prog = true) (hread : ∀ t ∈ fn.params.toList, C.prog.readableRec t = true ∧ t < C.prog.types.size)
    (witness : ∃ (w : World) (tape : Tape) (i : Input), w.os = os ∧ (w.forCall tape i).Shaped C.prog ∧ i.vars = [] ∧ Input.okWide C.prog (w.forCall tape i) .any w.heap.size f i ∧
      ((s.pre enc C.prog fn conds false (w.forCall tape i).memory i.args ∧ laidMetH C.prog laidL (w.forCall tape i).memory) ∧ sizedMet enc C.prog fn (OpenSpec.ofChange s) false (w.forCall tape i).memory i.args) ∧ ({} : Assume).holds C.prog (lone (Frame.enter C.prog f i.args .normal) [] (w.forCall tape i)))
    (walk : ∀ (W : World) (base : Nat) (args : Array Value) (ds : List (DataW H)) (p : List MemPlace), DataW.TrodAll enc C.prog W 0 (fun _ => true) true fn.params.toList args.toList ds p →
      (∀ (j : Nat) t v, fn.params[j]? = some t → args[j]? = some v → Value.okWide C.prog W .any base t v) →
      (DataW.weightsEach C.prog (fn.params.toList ++ s.plain.varTypes C.prog) (ds ++ [])).all (· ≤ reachBytes) = true → laidMetH C.prog laidL W → W.ShapedOpen C.prog →
      CALL C.prog f args (fun u h' => u = .bool true ∧ Ext W.heap h') W.heap) :
    ReturnsInHanded {} C os f .any (fun w args => (s.pre enc C.prog fn conds false w args ∧ laidMetH C.prog laidL w) ∧ sizedMet enc C.prog fn (OpenSpec.ofChange s) false w args) (s.post enc C.prog fn false true false false) := by
  refine returnsInHanded_of_calls own started noInit witness ?_
  intro w tape i _ hS _ hok hpre hholds
  obtain ⟨_, _, _, fn', hfn', _, _, _, _, hval⟩ := hok
  have e : fn' = fn := Option.some.inj (hfn'.symm.trans hfn)
  subst e
  obtain ⟨⟨⟨ds, gs, before, hw, hc⟩, hx⟩, hz⟩ := hpre
  have hW := DataW.Whole.of_heap (w' := w.forCall tape i) (by rfl) hw
  have hL : laidMetH C.prog laidL (w.forCall tape i) := hx.of_heap (by rfl)
  have hsz := hz.weights hw
  have hW' := hW
  obtain ⟨p, q, hA, hV, rfl, hfz, hnd⟩ := hW
  rw [hvars] at hV
  obtain ⟨rfl, rfl⟩ := trodVars_none hV
  refine (calls_of_CALL hfn hb hn (walk (w.forCall tape i) w.heap.size i.args ds p hA hval hsz hL hS)).mono fun e W' ⟨v, he, hs, hv, hx⟩ => ?_
  subst he; subst hv
  refine ChangeSpec.post_blind ?_
  have bel := below_of hs hx
  have hl := trodAll_length hA
  refine ⟨ds, [], _, [], p, [], hW', ?_, ?_, ?_, bel.frame _, fun h => by cases h⟩
  · rw [List.append_nil, hspec ds hl, hres]; exact trodAll_mk1 (shut_bool htb true)
  · rw [List.append_nil, hspec ds hl]; exact trodAll_back laid bel hread hA
  · rw [List.append_nil, hspec ds hl, hvars]; rfl
/-- A table on the list is where the program has it, in every later world. -/
theorem laid_var {P : Program} {W : World} : ∀ {l : List (String × DataW Unit)} {ps : List MemPlace}, DataW.LaidVars P W l ps → ∀ n d, (n, d) ∈ l →
    ∃ g t cs fuel p, P.globalNamed n = some g ∧ (P.globals[g]?).map (·.type) = some t ∧ W.var? P n = some cs ∧ DataW.trod (fun _ => ()) P W 0 (fun _ => true) false fuel t cs.toList = some (d, p)
  | [], _, _, _, _, hm => by cases hm
  | (n', d') :: r, ps, h, n, d, hm => by
    obtain ⟨g, t, cs, fuel, p, q, h1, h2, h3, h4, h5, _⟩ := h
    rcases List.mem_cons.1 hm with e | e
    · cases e
      exact ⟨g, t, cs, fuel, p, h1, h2, h3, h4⟩
    · exact laid_var h5 n d e
theorem var_ext {P : Program} {W w : World} {n : String} {cs : Array Value} (h : W.var? P n = some cs) (X : Ext W.heap w.heap) : w.var? P n = some cs := by
  unfold World.var? at *
  cases hg : P.globalNamed n with
  | none => rw [hg] at h; cases h
  | some g =>
    rw [hg] at h
    simp only [Option.bind_some] at h ⊢
    cases ho : W.heap[g]? with
    | none => rw [ho] at h; cases h
    | some o =>
      rw [X.eq g (Array.getElem?_eq_some_iff.1 ho).1]
      exact h
theorem laid_tab {P : Program} {W : World} {l : List (String × DataW Unit)} {name : String} {k : IntKind} {zs : List Int} {g : Nat} {t e : TypeId} {n : Nat}
    (hg : P.globalNamed name = some g) (hty : (P.globals[g]?).map (·.type) = some t) (ht : P.underlying t = some (.array n e)) (he : P.underlying e = some (.int k)) (hce : P.cellsOf e = 1) (hct : P.cellsOf t = n)
    (h : laidMet P l W) (hm : (name, Lib.tabData k zs) ∈ l) : ∀ w : World, Ext W.heap w.heap → Lib.TabIs P w name k zs := by
  obtain ⟨ps, hv, _⟩ := h
  obtain ⟨g', t', cs, fuel, p, hg', ht', hvar, hd⟩ := laid_var hv _ _ hm
  obtain rfl := Option.some.inj (hg.symm.trans hg')
  obtain rfl := Option.some.inj (hty.symm.trans ht')
  intro w X
  unfold Lib.TabIs
  rw [var_ext hvar X, ← Lib.cells_of_tab ht he hce hct hd]
end Go.Sx
/- The table that the counting of zeros reads, off a row's list. -/
namespace Go.Sx
open Go.Proofs
theorem laid_bru {W : World} {l : List (String × DataW Unit)} {t e : TypeId} (hg : prg.globalNamed "math/bits.deBruijn64tab" = some (R27.g 1)) (hty : (prg.globals[R27.g 1]?).map (·.type) = some t) (ht : prg.underlying t = some (.array 64 e)) (he : prg.underlying e = some (.int .u8)) (hce : prg.cellsOf e = 1) (hct : prg.cellsOf t = 64)
    (h : laidMet prg l W) (hm : ("math/bits.deBruijn64tab", Lib.tabData .u8 (Lib.deBruijn64tab.map fun n : Nat => (n : Int))) ∈ l) : Bru W.heap := by
  intro w X j hj
  have := Lib.TabIs.cell (laid_tab hg hty ht he hce hct h hm w X) hg j (by simpa using hj)
  rw [this]
  simp [List.getD, hj]
end Go.Sx
