/- Players told: the rule and the program. -/
import Derived.Test.YtnhcoeogejgidadGreatDoorLvs3
import Derived.Test.YtnhcoeogejgidadGreatDoorLk45
import Derived.Test.YtnhcoeogejgidadGreatDoorPX
set_option linter.unusedVariables false
set_option linter.unusedSimpArgs false
namespace Go.Sx
open Go.Proofs
set_option maxRecDepth 100000
set_option maxHeartbeats 1000000

def voiceW : List UInt8 := [118, 111, 105, 99, 101]
def playerW : List UInt8 := [112, 108, 97, 121, 101, 114]
def freeW : List UInt8 := [102, 114, 101, 101]
def goneW : List UInt8 := [103, 111, 110, 101]
def heldW : List UInt8 := [104, 101, 108, 100]
def holdL (v : GVoice) : List UInt8 := if v.Gone then goneW else heldW
def headV (v : GVoice) : List UInt8 := wordsL [voiceW, Lib.decDigits v.Note.toNat, Lib.decDigits v.Instrument.toNat, Lib.decDigits v.Born.toNat, holdL v, bitL v.Drive]
/-- The lines of a voice. -/
def GVoice.lines (kind : Int) (v : GVoice) : List (List UInt8) :=
  if v.Note = -1 then [freeW] else headV v :: (if kind = 1 then v.String.lines else if kind = 2 then v.Pipe.lines else v.Bow.lines)
def kindOf (s : GScore) (v : GVoice) : Int := s.Instruments[v.Instrument.toNat]!.Kind
def headP (p : GPlayer) : List UInt8 := wordsL [playerW, Lib.decDigits p.Now.toNat, Lib.decDigits p.Next.toNat, Lib.decDigits p.Skipped.toNat]
def voicesL (s : GScore) (vs : List GVoice) : List (List UInt8) := (vs.map fun v => v.lines (kindOf s v)).flatten
def GPlayer.lines (p : GPlayer) : List (List UInt8) := headP p :: voicesL p.Score p.Voices
noncomputable def GPlayer.text (p : GPlayer) : ByteArray := if p.ok then mkB (linL p.lines) else ⟨#[]⟩
structure VoiceF (s : GScore) (v : GVoice) : Prop where
  n0 : 0 ≤ v.Note
  n1 : v.Note < 64
  i0 : 0 ≤ v.Instrument
  i1 : v.Instrument < s.Instruments.length
  b0 : 0 ≤ v.Born
  b1 : v.Born ≤ 100000
  body : bodyOk s v = true
theorem voice_facts {s : GScore} {v : GVoice} (hs : s.ok = true) (hv : voiceOk s v = true) (hn : ¬ v.Note = -1) : VoiceF s v := by
  rw [voiceOk, if_neg hn] at hv
  cases he : startEv s.Events v.Note with
  | none => rw [he] at hv; cases hv
  | some e =>
    rw [he] at hv
    simp only [Bool.and_eq_true, beq_iff_eq] at hv
    obtain ⟨⟨⟨h1, h2⟩, _⟩, h4⟩ := hv
    have G := score_ev hs
    have hm := List.mem_of_find?_eq_some he
    have hp := List.find?_some he
    obtain ⟨i, hi, rfl⟩ := List.mem_iff_getElem.1 hm
    have hnote := G.note i hi
    have hpart := G.part i hi
    have hmost := G.most
    rw [getElem!_pos _ i hi] at hnote hpart
    rw [Bool.and_eq_true, beq_iff_eq] at hp
    have hk : ¬ s.Events[i].Kind = 1 := by have := st_ev hp.1; omega
    unfold evPart inR at hpart
    rw [if_neg hk] at hpart
    simp only [Bool.and_eq_true, decide_eq_true_eq] at hpart
    have hA := hpart.1
    have hI := hpart.2.1.1.2
    exact ⟨by omega, by omega, by omega, by omega, by omega, by omega, h4⟩
theorem player_facts {p : GPlayer} (h : p.ok = true) : p.Score.ok = true ∧ p.Voices.length ≤ 6 ∧ (0 ≤ p.Now ∧ p.Now ≤ 200000) ∧ (0 ≤ p.Next ∧ p.Next ≤ 128) ∧ (0 ≤ p.Skipped ∧ p.Skipped ≤ 64) := by
  unfold GPlayer.ok inR at h
  simp only [Bool.and_eq_true, decide_eq_true_eq, beq_iff_eq] at h
  have hs := h.1.1.1.1.1
  have hh : hap p.Score.Events p.Now ≤ p.Score.Events.length := by unfold hap; first | exact List.countP_le_length | skip
  have := (score_small hs).2.2
  refine ⟨hs, ?_, ?_, ?_, ?_⟩
  · have := h.1.1.1.1.2; omega
  · exact h.1.1.1.2
  · have := h.1.2; omega
  · exact h.1.1.2
section
variable {h : Heap} {cs : Array Value}
theorem body_lines {s : GScore} {v : GVoice} {q : Addr} (V : RdP rVoice h q v) (F : VoiceF s v) : (linL (if kindOf s v = 1 then v.String.lines else if kindOf s v = 2 then v.Pipe.lines else v.Bow.lines)).length ≤ 90000 := by
  have hb := F.body
  unfold bodyOk at hb
  show (linL (if s.Instruments[v.Instrument.toNat]!.Kind = 1 then _ else if s.Instruments[v.Instrument.toNat]!.Kind = 2 then _ else _)).length ≤ _
  split at hb
  · rename_i k
    rw [if_pos k]
    simp only [Bool.and_eq_true] at hb
    have := (str_a (V.foc foc_Voice_String) hb.1.1).b'.size
    omega
  · rename_i k
    rw [if_neg k]
    split at hb
    · rename_i k2
      rw [if_pos k2]
      simp only [Bool.and_eq_true] at hb
      exact (pipe_a (V.foc foc_Voice_Pipe) hb.1.2).b'.size
    · rename_i k2
      rw [if_neg k2]
      simp only [Bool.and_eq_true] at hb
      have := (bow_a (V.foc foc_Voice_Bow) hb.2).bb.size
      omega
theorem headV_eq (v : GVoice) : headV v = voiceW ++ [32] ++ Lib.decDigits v.Note.toNat ++ [32] ++ Lib.decDigits v.Instrument.toNat ++ [32] ++ Lib.decDigits v.Born.toNat ++ [32] ++ holdL v ++ [32] ++ bitL v.Drive := by
  unfold headV
  rw [words_cons, words_cons, words_cons, words_cons, words_cons, words_one]
  simp
theorem headV_len {v : GVoice} {s : GScore} {q : Addr} (V : RdP rVoice h q v) (F : VoiceF s v) (hs : s.ok = true) : (headV v).length ≤ 60 := by
  have f0 := F.n0; have f1 := F.n1; have f2 := F.i0; have f3 := F.i1; have f4 := F.b0; have f5 := F.b1
  have f6 := (score_small hs).2.1
  have d1 := dec_le (n := v.Note.toNat) (k := 9) (by omega)
  have d2 := dec_le (n := v.Instrument.toNat) (k := 9) (by omega)
  have d3 := dec_le (n := v.Born.toNat) (k := 9) (by omega)
  have b8 := bitL_len (f32_a (V.foc foc_Voice_Drive)).lt
  have lh : (holdL v).length = 4 := by unfold holdL; split <;> rfl
  have lv : voiceW.length = 5 := rfl
  rw [headV_eq]
  simp only [List.length_append, List.length_cons, List.length_nil]
  omega
theorem l09VoiceText_c {p q : Addr} {s : GScore} {v : GVoice} (R : RdP rScore h p s) (V : RdP rVoice h q v) (hs : s.ok = true) (hv : voiceOk s v = true) :
    CALL prg f_spec_l09VoiceText #[.pointer (some p), .pointer (some q)] (fun u h' => u = .string (mkB (linL (v.lines (kindOf s v)))) ∧ Ext h h') h := by
  refine spec_l09VoiceText.call (V.oI1 (br (fun hn => ?_) fun hn => ?_))
  · have hn : v.Note = -1 := by simpa using hn
    refine ⟨?_, Ext.refl _⟩
    unfold GVoice.lines
    rw [if_pos hn]
    rfl
  have hn : ¬ v.Note = -1 := by simpa using hn
  have F := voice_facts hs hv hn
  have f0 := F.n0; have f1 := F.n1; have f2 := F.i0; have f3 := F.i1; have f4 := F.b0; have f5 := F.b1
  have f6 := (score_small hs).2.1
  have d1 := dec_le (n := v.Note.toNat) (k := 9) (by omega)
  have d2 := dec_le (n := v.Instrument.toNat) (k := 9) (by omega)
  have d3 := dec_le (n := v.Born.toNat) (k := 9) (by omega)
  have lh : (holdL v).length = 4 := by unfold holdL; split <;> rfl
  have lv : voiceW.length = 5 := rfl
  have hbl := body_lines V F
  have hhl := headV_len V F hs
  have key : spec_l09VoiceText.J6 (fun u h' => u = .string (mkB (linL (v.lines (kindOf s v)))) ∧ Ext h h') p q (mkB (holdL v)) h := by
    unfold spec_l09VoiceText.J6
    obtain ⟨n, e1⟩ : ∃ n : Nat, v.Note = (n : Int) := ⟨v.Note.toNat, by omega⟩
    obtain ⟨i, e2⟩ : ∃ n : Nat, v.Instrument = (n : Int) := ⟨v.Instrument.toNat, by omega⟩
    obtain ⟨b, e3⟩ : ∃ n : Nat, v.Born = (n : Int) := ⟨v.Born.toNat, by omega⟩
    refine V.oI1 (V.oI (V.oI (V.oF (off := 4) fun y hy => ?_)))
    have b8 := bitL_len hy.lt
    rw [e1, e2, e3, e32, show (⟨#[118, 111, 105, 99, 101, 32]⟩ : ByteArray) = mkB (voiceW ++ [32]) from rfl]
    rw [e1, Int.toNat_natCast] at d1
    rw [e2, Int.toNat_natCast] at d2
    rw [e3, Int.toNat_natCast] at d3
    have PO : ∀ (off n : Nat) {hh : Heap} {p : Prop}, off + n ≤ rVoice.sz → Ext h hh → p → PIN h (q.add off) n hh p := fun off n {hh p} hj X H => V.pinO (off := off) (n := n) hj X H
    refine (spec_Decimal_c n (by omega)).go fun h2 x2 => as_s (PO 4 1 (by decide) x2 (PO 2 1 (by decide) x2 (PO 1 1 (by decide) x2 ?_)))
    rw [decB_mk]
    simp only [mkB_app]
    refine ⟨by simp only [mk_size, List.length_append, List.length_cons, List.length_nil]; omega, by simp only [mk_size, List.length_append, List.length_cons, List.length_nil]; omega, ?_⟩
    refine (spec_Decimal_c i (by omega)).go fun h3 x3 => as_s (PO 4 1 (by decide) (x2.trans x3) (PO 2 1 (by decide) (x2.trans x3) ?_))
    rw [decB_mk]
    simp only [mkB_app]
    refine ⟨by simp only [mk_size, List.length_append, List.length_cons, List.length_nil]; omega, by simp only [mk_size, List.length_append, List.length_cons, List.length_nil]; omega, ?_⟩
    refine (spec_Decimal_c b (by omega)).go fun h4 x4 => as_s (PO 4 1 (by decide) (x2.trans (x3.trans x4)) ?_)
    rw [decB_mk]
    simp only [mkB_app]
    refine ⟨by simp only [mk_size, List.length_append, List.length_cons, List.length_nil]; omega, by simp only [mk_size, List.length_append, List.length_cons, List.length_nil]; omega, by simp only [mk_size, List.length_append, List.length_cons, List.length_nil]; omega, by simp only [mk_size, List.length_append, List.length_cons, List.length_nil]; omega, ?_⟩
    have X4 := x2.trans (x3.trans x4)
    refine goX (l01Hex_c hy) fun h5 x5 => as_s ?_
    rw [e10]
    simp only [mkB_app]
    have X5 := X4.trans x5
    have eW : voiceW ++ [32] ++ Lib.decDigits n ++ [32] ++ Lib.decDigits i ++ [32] ++ Lib.decDigits b ++ [32] ++ holdL v ++ [32] ++ bitL v.Drive = headV v := by
      rw [headV_eq, e1, e2, e3]; rfl
    rw [eW]
    refine ⟨by rw [← eW] at hhl; simp only [mk_size, List.length_append, List.length_cons, List.length_nil] at *; omega, by simp only [mk_size, List.length_append, List.length_cons, List.length_nil]; omega, ?_⟩
    have hb := F.body
    have fin : ∀ {L : List (List UInt8)} {h' : Heap}, L = (if kindOf s v = 1 then v.String.lines else if kindOf s v = 2 then v.Pipe.lines else v.Bow.lines) → Ext h h' →
        (((mkB (headV v ++ [10])).size + (mkB (linL L)).size : Nat) : Int) ≤ 9223372036854775807 ∧ (Value.string (mkB (headV v ++ [10]) ++ mkB (linL L)) = .string (mkB (linL (v.lines (kindOf s v)))) ∧ Ext h h') := fun {L h'} e X => by
      rw [← e] at hbl
      refine ⟨by simp only [mk_size, List.length_append, List.length_cons, List.length_nil]; omega, ?_, X⟩
      unfold GVoice.lines
      rw [if_neg hn, ← e, mkB_app]
      simp [linL]
    refine (R.ext X5).oL (off := 4) fun bb l c S => (V.ext X5).oI ?_
    have hl : s.Instruments.length = l := S.len
    rw [e2]
    refine S.idn (by decide) (by omega) fun a Ra => Ra.oI ?_
    have ek : s.Instruments[i]!.Kind = kindOf s v := by unfold kindOf; rw [e2]; rfl
    rw [ek]
    unfold bodyOk at hb
    have hb : (if kindOf s v = 1 then v.String.ok && same v.Pipe z_Pipe && same v.Bow z_Bow else if kindOf s v = 2 then same v.String z_String && v.Pipe.ok && same v.Bow z_Bow else same v.String z_String && same v.Pipe z_Pipe && v.Bow.ok) = true := hb
    refine br (fun k1 => ?_) fun k1 => ?_
    · have k1 : kindOf s v = 1 := by simpa using k1
      rw [if_pos k1] at hb
      simp only [Bool.and_eq_true] at hb
      exact (V.ext X5).lda foc_Voice_String rfl fun cv Rv => goX (spec_StringText_c Rv hb.1.1) fun h6 x6 => as_s (fin (by rw [if_pos k1]) (X5.trans x6))
    · have k1 : ¬ kindOf s v = 1 := by simpa using k1
      rw [if_neg k1] at hb
      refine br (fun k2 => ?_) fun k2 => ?_
      · have k2 : kindOf s v = 2 := by simpa using k2
        rw [if_pos k2] at hb
        simp only [Bool.and_eq_true] at hb
        exact (V.ext X5).lda foc_Voice_Pipe rfl fun cv Rv => goX (spec_PipeText_c Rv hb.1.2) fun h6 x6 => as_s (fin (by rw [if_neg k1, if_pos k2]) (X5.trans x6))
      · have k2 : ¬ kindOf s v = 2 := by simpa using k2
        rw [if_neg k2] at hb
        simp only [Bool.and_eq_true] at hb
        exact (V.ext X5).lda foc_Voice_Bow rfl fun cv Rv => goX (spec_BowText_c Rv hb.2) fun h6 x6 => as_s (fin (by rw [if_neg k1, if_neg k2]) (X5.trans x6))
  have eh : holdL v = if v.Gone then goneW else heldW := rfl
  refine V.oB (br (fun hb => ?_) fun hb => ?_)
  · have : (⟨#[103, 111, 110, 101]⟩ : ByteArray) = mkB (holdL v) := by rw [eh, hb]; rfl
    rw [this]; exact key
  · have : (⟨#[104, 101, 108, 100]⟩ : ByteArray) = mkB (holdL v) := by rw [eh, hb]; rfl
    rw [this]; exact key
theorem voiceText_c {s : GScore} {v : GVoice} (V0 : rVoice.rd h cs.toList v) (hs : s.ok = true) (hv : voiceOk s v = true) (hn : ¬ v.Note = -1) (T0 : TxW h) :
    CALL prg f_impl_voiceText #[.agg cs, .int .i64 (kindOf s v)] (fun u h' => u = .string (mkB (linL (v.lines (kindOf s v)))) ∧ Ext h h') h := by
  refine impl_voiceText.call (alcR V0 fun g h1 x1 V => ?_)
  have T := T0.ext x1
  have F := voice_facts hs hv hn
  have f0 := F.n0; have f1 := F.n1; have f2 := F.i0; have f3 := F.i1; have f4 := F.b0; have f5 := F.b1
  have f6 := (score_small hs).2.1
  have d1 := dec_le (n := v.Note.toNat) (k := 9) (by omega)
  have d2 := dec_le (n := v.Instrument.toNat) (k := 9) (by omega)
  have d3 := dec_le (n := v.Born.toNat) (k := 9) (by omega)
  have lh : (holdL v).length = 4 := by unfold holdL; split <;> rfl
  have lv : voiceW.length = 5 := rfl
  have hbl := body_lines V F
  have hhl := headV_len V F hs
  have key : impl_voiceText.J4 (fun u h' => u = .string (mkB (linL (v.lines (kindOf s v)))) ∧ Ext h h') (kindOf s v) ⟨g, 0, none⟩ (mkB (holdL v)) h1 := by
    unfold impl_voiceText.J4
    obtain ⟨n, e1⟩ : ∃ n : Nat, v.Note = (n : Int) := ⟨v.Note.toNat, by omega⟩
    obtain ⟨i, e2⟩ : ∃ n : Nat, v.Instrument = (n : Int) := ⟨v.Instrument.toNat, by omega⟩
    obtain ⟨b, e3⟩ : ∃ n : Nat, v.Born = (n : Int) := ⟨v.Born.toNat, by omega⟩
    refine V.oI1 (V.oI (V.oI (V.oF (off := 4) fun y hy => ?_)))
    have b8 := bitL_len hy.lt
    rw [e1, e2, e3, e32, show (⟨#[118, 111, 105, 99, 101, 32]⟩ : ByteArray) = mkB (voiceW ++ [32]) from rfl]
    rw [e1, Int.toNat_natCast] at d1
    rw [e2, Int.toNat_natCast] at d2
    rw [e3, Int.toNat_natCast] at d3
    have PO : ∀ (off n : Nat) {hh : Heap} {p : Prop}, off + n ≤ rVoice.sz → Ext h1 hh → p → PIN h1 ((⟨g, 0, none⟩ : Addr).add off) n hh p := fun off n {hh p} hj X H => V.pinO (off := off) (n := n) hj X H
    refine goX (decimal_c (m := n) (by omega) T.tens) fun h2 x2 => as_s (PO 4 1 (by decide) x2 (PO 2 1 (by decide) x2 (PO 1 1 (by decide) x2 ?_)))
    rw [decB_mk]
    simp only [mkB_app]
    refine ⟨by simp only [mk_size, List.length_append, List.length_cons, List.length_nil]; omega, by simp only [mk_size, List.length_append, List.length_cons, List.length_nil]; omega, ?_⟩
    refine goX (decimal_c (m := i) (by omega) (T.ext x2).tens) fun h3 x3 => as_s (PO 4 1 (by decide) (x2.trans x3) (PO 2 1 (by decide) (x2.trans x3) ?_))
    rw [decB_mk]
    simp only [mkB_app]
    refine ⟨by simp only [mk_size, List.length_append, List.length_cons, List.length_nil]; omega, by simp only [mk_size, List.length_append, List.length_cons, List.length_nil]; omega, ?_⟩
    refine goX (decimal_c (m := b) (by omega) (T.ext (x2.trans x3)).tens) fun h4 x4 => as_s (PO 4 1 (by decide) (x2.trans (x3.trans x4)) ?_)
    rw [decB_mk]
    simp only [mkB_app]
    refine ⟨by simp only [mk_size, List.length_append, List.length_cons, List.length_nil]; omega, by simp only [mk_size, List.length_append, List.length_cons, List.length_nil]; omega, by simp only [mk_size, List.length_append, List.length_cons, List.length_nil]; omega, by simp only [mk_size, List.length_append, List.length_cons, List.length_nil]; omega, ?_⟩
    have X4 := x2.trans (x3.trans x4)
    refine goX (bitsText_c hy (T.ext X4).br) fun h5 x5 => as_s ?_
    rw [e10]
    simp only [mkB_app]
    have X5 := X4.trans x5
    have eW : voiceW ++ [32] ++ Lib.decDigits n ++ [32] ++ Lib.decDigits i ++ [32] ++ Lib.decDigits b ++ [32] ++ holdL v ++ [32] ++ bitL v.Drive = headV v := by
      rw [headV_eq, e1, e2, e3]; rfl
    rw [eW]
    refine ⟨by rw [← eW] at hhl; simp only [mk_size, List.length_append, List.length_cons, List.length_nil] at *; omega, by simp only [mk_size, List.length_append, List.length_cons, List.length_nil]; omega, ?_⟩
    have hb := F.body
    have fin : ∀ {L : List (List UInt8)} {h' : Heap}, L = (if kindOf s v = 1 then v.String.lines else if kindOf s v = 2 then v.Pipe.lines else v.Bow.lines) → Ext h1 h' →
        (((mkB (headV v ++ [10])).size + (mkB (linL L)).size : Nat) : Int) ≤ 9223372036854775807 ∧ (Value.string (mkB (headV v ++ [10]) ++ mkB (linL L)) = .string (mkB (linL (v.lines (kindOf s v)))) ∧ Ext h h') := fun {L h'} e X => by
      rw [← e] at hbl
      refine ⟨by simp only [mk_size, List.length_append, List.length_cons, List.length_nil]; omega, ?_, x1.trans X⟩
      unfold GVoice.lines
      rw [if_neg hn, ← e, mkB_app]
      simp [linL]
    unfold bodyOk at hb
    have hb : (if kindOf s v = 1 then v.String.ok && same v.Pipe z_Pipe && same v.Bow z_Bow else if kindOf s v = 2 then same v.String z_String && v.Pipe.ok && same v.Bow z_Bow else same v.String z_String && same v.Pipe z_Pipe && v.Bow.ok) = true := hb
    refine br (fun k1 => ?_) fun k1 => ?_
    · have k1 : kindOf s v = 1 := by simpa using k1
      rw [if_pos k1] at hb
      simp only [Bool.and_eq_true] at hb
      exact (V.ext X5).lda foc_Voice_String rfl fun cv Rv => goX (StringText_c Rv hb.1.1 (T.ext X5)) fun h6 x6 => as_s (fin (by rw [if_pos k1]) (X5.trans x6))
    · have k1 : ¬ kindOf s v = 1 := by simpa using k1
      rw [if_neg k1] at hb
      refine br (fun k2 => ?_) fun k2 => ?_
      · have k2 : kindOf s v = 2 := by simpa using k2
        rw [if_pos k2] at hb
        simp only [Bool.and_eq_true] at hb
        exact (V.ext X5).lda foc_Voice_Pipe rfl fun cv Rv => goX (PipeText_c Rv hb.1.2 (T.ext X5)) fun h6 x6 => as_s (fin (by rw [if_neg k1, if_pos k2]) (X5.trans x6))
      · have k2 : ¬ kindOf s v = 2 := by simpa using k2
        rw [if_neg k2] at hb
        simp only [Bool.and_eq_true] at hb
        exact (V.ext X5).lda foc_Voice_Bow rfl fun cv Rv => goX (BowText_c Rv hb.2 (T.ext X5)) fun h6 x6 => as_s (fin (by rw [if_neg k1, if_neg k2]) (X5.trans x6))
  have eh : holdL v = if v.Gone then goneW else heldW := rfl
  refine V.oB2 (br (fun hb => ?_) fun hb => ?_)
  · have : (⟨#[103, 111, 110, 101]⟩ : ByteArray) = mkB (holdL v) := by rw [eh, hb]; rfl
    rw [this]; exact key
  · have : (⟨#[104, 101, 108, 100]⟩ : ByteArray) = mkB (holdL v) := by rw [eh, hb]; rfl
    rw [this]; exact key
/-- The lines of some voices are not too many. -/
theorem voices_len {s : GScore} {vs : List GVoice} (hs : s.ok = true) (h : ∀ v ∈ vs, voiceOk s v = true ∧ ∃ (hh : Heap) (q : Addr), RdP rVoice hh q v) : (linL (voicesL s vs)).length ≤ 90100 * vs.length := by
  induction vs with
  | nil => exact Nat.zero_le _
  | cons v vs ih =>
    have e : voicesL s (v :: vs) = v.lines (kindOf s v) ++ voicesL s vs := rfl
    rw [e, lin_app, List.length_append, List.length_cons]
    have h1 := ih fun w hw => h w (.tail _ hw)
    obtain ⟨hv, hh, q, V⟩ := h v (.head _)
    have h2 : (linL (v.lines (kindOf s v))).length ≤ 90100 := by
      by_cases hn : v.Note = -1
      · unfold GVoice.lines
        rw [if_pos hn]
        show (linL [freeW]).length ≤ _
        decide
      · have F := voice_facts hs hv hn
        have l1 := body_lines V F
        have l2 := headV_len V F hs
        unfold GVoice.lines
        rw [if_neg hn]
        show (headV v ++ 10 :: linL _).length ≤ _
        rw [List.length_append, List.length_cons]
        omega
    omega
theorem voicesL_snoc (s : GScore) (vs : List GVoice) {i : Nat} (hi : i < vs.length) : voicesL s (vs.take (i + 1)) = voicesL s (vs.take i) ++ vs[i]!.lines (kindOf s vs[i]!) := by
  unfold voicesL
  rw [take_snoc hi, List.map_append, List.flatten_append]
  simp
theorem headP_eq (p : GPlayer) : headP p = playerW ++ [32] ++ Lib.decDigits p.Now.toNat ++ [32] ++ Lib.decDigits p.Next.toNat ++ [32] ++ Lib.decDigits p.Skipped.toNat := by
  unfold headP
  rw [words_cons, words_cons, words_cons, words_one]
  simp
end
end Go.Sx
