/- Scores copied. -/
import Derived.Test.YthhepeklpgefkaaGreatDoorLk32
import Derived.Test.YthhepeklpgefkaaGreatDoorLm5
import Derived.Test.YthhepeklpgefkaaGreatDoorLk2
set_option linter.unusedVariables false
set_option linter.unusedSimpArgs false
namespace Go.Sx
open Go.Proofs
set_option maxRecDepth 100000
set_option maxHeartbeats 1000000

theorem flat_Instrument : Flat rInstrument := flat_via (flat_seq flat_S (flat_seq (flat_I _) (flat_seq (flat_F _) (flat_seq (flat_F _) (flat_F _)))))
theorem ins_sz : 0 < rInstrument.sz := by decide
/-- A score's cells. -/
def scC (y1 y2 y3 : Nat) (b1 : Option Addr) (l1 c1 : Nat) (b2 : Option Addr) (l2 c2 : Nat) (b3 : Option Addr) (l3 c3 : Nat) : List Value := [.float .f32 y1, .float .f32 y2, .float .f32 y3, .slice b1 l1 c1, .slice b2 l2 c2, .slice b3 l3 c3]
section
variable {h : Heap}
theorem score_cells {cs : Array Value} {s : GScore} (R : rScore.rd h cs.toList s) : ∃ y1 y2 y3 b1 l1 c1 b2 l2 c2 b3 l3 c3, cs = ⟨scC y1 y2 y3 b1 l1 c1 b2 l2 c2 b3 l3 c3⟩ ∧ FW .f32 y1 s.Rate ∧ FW .f32 y2 s.Tuning.Base ∧ FW .f32 y3 s.Tuning.Octave ∧
    SlR (rF .f32) h b1 l1 c1 s.Tuning.Degrees ∧ SlR rInstrument h b2 l2 c2 s.Instruments ∧ SlR rEvent h b3 l3 c3 s.Events := by
  obtain ⟨v1, r1, e1, ⟨y1, rfl, F1⟩, vT, r2, rfl, ⟨v2, r3, rfl, ⟨y2, rfl, F2⟩, v3, r4, rfl, ⟨y3, rfl, F3⟩, b1, l1, c1, rfl, S1⟩, v5, v6, rfl, ⟨b2, l2, c2, rfl, S2⟩, b3, l3, c3, rfl, S3⟩ := R
  exact ⟨y1, y2, y3, b1, l1, c1, b2, l2, c2, b3, l3, c3, by cases cs; simpa [scC] using e1, F1, F2, F3, S1, S2, S3⟩
theorem score_ow {s : GScore} {y1 y2 y3 : Nat} {b1 b2 b3 : Option Addr} {l1 c1 l2 c2 l3 c3 : Nat} {B1 B2 B3 : List Blk} (F1 : FW .f32 y1 s.Rate) (F2 : FW .f32 y2 s.Tuning.Base) (F3 : FW .f32 y3 s.Tuning.Octave)
    (O1 : SlO T_float32 (rF .f32) B1 b1 l1 c1 s.Tuning.Degrees) (O2 : SlO T_impl_Instrument rInstrument B2 b2 l2 c2 s.Instruments) (O3 : SlO T_impl_Event rEvent B3 b3 l3 c3 s.Events) : rScore.ow (B1 ++ (B2 ++ B3)) (scC y1 y2 y3 b1 l1 c1 b2 l2 c2 b3 l3 c3) s :=
  ⟨[], B1 ++ (B2 ++ B3), [.float .f32 y1], _, rfl, rfl, ⟨rfl, y1, rfl, F1⟩, B1, B2 ++ B3, [.float .f32 y2, .float .f32 y3, .slice b1 l1 c1], [.slice b2 l2 c2, .slice b3 l3 c3], rfl, rfl,
    ⟨[], B1, [.float .f32 y2], [.float .f32 y3, .slice b1 l1 c1], rfl, rfl, ⟨rfl, y2, rfl, F2⟩, [], B1, [.float .f32 y3], [.slice b1 l1 c1], rfl, rfl, ⟨rfl, y3, rfl, F3⟩, b1, l1, c1, rfl, O1⟩,
    B2, B3, [.slice b2 l2 c2], [.slice b3 l3 c3], rfl, rfl, ⟨b2, l2, c2, rfl, O2⟩, b3, l3, c3, rfl, O3⟩
theorem sc_one {y1 y2 y3 : Nat} {b1 b2 b3 : Option Addr} {l1 c1 l2 c2 l3 c3 : Nat} : ∀ v ∈ (⟨scC y1 y2 y3 b1 l1 c1 b2 l2 c2 b3 l3 c3⟩ : Array Value).toList, v.oneCell' = true := fun v hv => by
  simp only [scC, List.mem_cons, List.mem_nil_iff, or_false] at hv
  rcases hv with rfl | rfl | rfl | rfl | rfl | rfl <;> rfl
theorem slr_nil {α : Type} {r : Rep α} {l c : Nat} {xs : List α} (hz : 0 < r.sz) (S : SlR r h none l c xs) : xs = [] ∧ l = 0 := by
  obtain ⟨h1, h2, h3, ws, C, R⟩ := S
  have hw : ws = [] := by
    cases ws with
    | nil => rfl
    | cons w ws => obtain ⟨a, e, _⟩ := C 0 (by simp); cases e
  subst hw
  have hx : xs.length * r.sz = 0 := by rw [← R.len]; rfl
  have hl : xs.length = 0 := by
    rcases Nat.mul_eq_zero.1 hx with h | h <;> omega
  exact ⟨List.eq_nil_of_length_eq_zero hl, by omega⟩
theorem Clone_Instrument_c {b : Option Addr} {l c : Nat} {xs : List GInstrument} (S : SlR rInstrument h b l c xs) (hl : l ≤ 1048576) :
    CALL prg f_slices_Clone_sl_impl_Instrument_impl_Instrument #[.slice b l c] (fun u h' => ∃ b' c' B, u = .slice b' l c' ∧ SlO T_impl_Instrument rInstrument B b' l c' xs ∧ Mem h h' B) h := by
  refine slices_Clone_sl_impl_Instrument_impl_Instrument.call (cmp_nil U_sl_impl_Instrument (br (fun hb => ?_) fun hb => ?_))
  · obtain rfl : b = none := by simpa using hb
    obtain ⟨rfl, rfl⟩ := slr_nil ins_sz S
    exact ⟨none, 0, [], rfl, SlO.nil, Mem.start h⟩
  · exact (Mem.start h).alc fun g h1 x1 M => append_copy E_sl_impl_Instrument ins_sz flat_Instrument (S.ext x1) M (by omega) fun b' c' h' B' O' M' => as_l ⟨b', c', B', rfl, O', by simpa using M'⟩
theorem Clone_Event_c {b : Option Addr} {l c : Nat} {xs : List GEvent} (S : SlR rEvent h b l c xs) (hl : l ≤ 1048576) :
    CALL prg f_slices_Clone_sl_impl_Event_impl_Event #[.slice b l c] (fun u h' => ∃ b' c' B, u = .slice b' l c' ∧ SlO T_impl_Event rEvent B b' l c' xs ∧ Mem h h' B) h := by
  refine slices_Clone_sl_impl_Event_impl_Event.call (cmp_nil U_sl_impl_Event (br (fun hb => ?_) fun hb => ?_))
  · obtain rfl : b = none := by simpa using hb
    obtain ⟨rfl, rfl⟩ := slr_nil ev_sz S
    exact ⟨none, 0, [], rfl, SlO.nil, Mem.start h⟩
  · exact (Mem.start h).alc fun g h1 x1 M => append_copy E_sl_impl_Event ev_sz flat_Event (S.ext x1) M (by omega) fun b' c' h' B' O' M' => as_l ⟨b', c', B', rfl, O', by simpa using M'⟩
theorem score_small {s : GScore} (h : s.ok = true) : s.Tuning.Degrees.length ≤ 31 ∧ s.Instruments.length ≤ 6 ∧ s.Events.length ≤ 128 := by
  have G := score_ev h
  have g1 := G.even
  have g2 := G.most
  unfold GScore.ok at h
  simp only [Bool.and_eq_true, decide_eq_true_eq] at h
  have ht := h.1.1.2
  unfold GTuning.ok at ht
  simp only [Bool.and_eq_true, inR, decide_eq_true_eq] at ht
  exact ⟨by omega, h.1.2.1, by omega⟩
theorem l08Copy_c {q : Addr} {s : GScore} (R : RdP rScore h q s) (hs : s.ok = true) : CALL prg f_spec_l08Copy #[.pointer (some q)] (fun u h' => NewR rScore h h' u s) h := by
  obtain ⟨z1, z2, z3⟩ := score_small hs
  refine spec_l08Copy.call ((Mem.start h).alc fun g1 h1 x1 M => (R.ext M.ext).lda1 rfl fun cs Rc => ?_)
  obtain ⟨y1, y2, y3, b1, l1, c1, b2, l2, c2, b3, l3, c3, rfl, F1, F2, F3, S1, S2, S3⟩ := score_cells Rc
  refine M.alc fun g4 h2 x2 M => M.sta0 .here rfl sc_one rfl .here fun h3 M => M.alc fun g7 h4 x4 M => ?_
  have A : ∀ {hh : Heap}, Ext h hh → RdP rScore hh q s := fun e => R.ext e
  refine (A M.ext).oL fun b lA c S => append_copy E_sl_float32 (by decide) (flat_F _) S M (by have := S.len; omega) fun b1' c1' h5 B1 O1 M => as_l ?_
  have e1 := S.len
  have M := M.cnt (W := (g4, T_impl_Score, ⟨scC y1 y2 y3 b1 l1 c1 b2 l2 c2 b3 l3 c3⟩) :: (B1 ++ [(g1, T_impl_Score, ⟨Z_impl_Score⟩)])) (fun p => by simp only [cnt_app, cnt_cons, cnt_nil] at *; omega)
  refine M.st1 .here (by show 3 < 6; decide) .here fun h6 M => ?_
  have M : Mem h h6 ((g4, T_impl_Score, ⟨scC y1 y2 y3 b1' lA c1' b2 l2 c2 b3 l3 c3⟩) :: (B1 ++ [(g1, T_impl_Score, ⟨Z_impl_Score⟩)])) := M
  refine M.alc fun g8 h7 x7 M => (A M.ext).oL fun b lB c S => append_copy E_sl_impl_Instrument ins_sz flat_Instrument S M (by have := S.len; omega) fun b2' c2' h8 B2 O2 M => as_l ?_
  have e2 := S.len
  have M := M.cnt (W := (g4, T_impl_Score, ⟨scC y1 y2 y3 b1' lA c1' b2 l2 c2 b3 l3 c3⟩) :: (B2 ++ (B1 ++ [(g1, T_impl_Score, ⟨Z_impl_Score⟩)]))) (fun p => by simp only [cnt_app, cnt_cons, cnt_nil] at *; omega)
  refine M.st1 .here (by show 4 < 6; decide) .here fun h9 M => ?_
  have M : Mem h h9 ((g4, T_impl_Score, ⟨scC y1 y2 y3 b1' lA c1' b2' lB c2' b3 l3 c3⟩) :: (B2 ++ (B1 ++ [(g1, T_impl_Score, ⟨Z_impl_Score⟩)]))) := M
  refine M.alc fun g9 h10 x10 M => (A M.ext).oL fun b lC c S => append_copy E_sl_impl_Event ev_sz flat_Event S M (by have := S.len; omega) fun b3' c3' h11 B3 O3 M => as_l ?_
  have e3 := S.len
  have M := M.cnt (W := (g4, T_impl_Score, ⟨scC y1 y2 y3 b1' lA c1' b2' lB c2' b3 l3 c3⟩) :: (B3 ++ (B2 ++ (B1 ++ [(g1, T_impl_Score, ⟨Z_impl_Score⟩)])))) (fun p => by simp only [cnt_app, cnt_cons, cnt_nil] at *; omega)
  refine M.st1 .here (by show 5 < 6; decide) .here fun h12 M => ?_
  have M : Mem h h12 ((g4, T_impl_Score, ⟨scC y1 y2 y3 b1' lA c1' b2' lB c2' b3' lC c3'⟩) :: (B3 ++ (B2 ++ (B1 ++ [(g1, T_impl_Score, ⟨Z_impl_Score⟩)])))) := M
  refine M.lda0 .here rfl ?_
  have M := M.cnt (W := (g1, T_impl_Score, ⟨Z_impl_Score⟩) :: (B1 ++ (B2 ++ B3))) (fun p => by simp only [cnt_app, cnt_cons, cnt_nil] at *; omega)
  exact M.sta0 .here rfl sc_one rfl .here fun h13 M => M.lda0 .here rfl ⟨_, B1 ++ (B2 ++ B3), rfl, score_ow F1 F2 F3 O1 O2 O3, M.drop⟩
theorem Score_clone_c {cs : Array Value} {s : GScore} (R0 : rScore.rd h cs.toList s) (hs : s.ok = true) : CALL prg f_impl_Score_clone #[.agg cs] (fun u h' => NewR rScore h h' u s) h := by
  obtain ⟨z1, z2, z3⟩ := score_small hs
  obtain ⟨y1, y2, y3, b1, l1, c1, b2, l2, c2, b3, l3, c3, rfl, F1, F2, F3, S1, S2, S3⟩ := score_cells R0
  have e1 := S1.len
  have e2 := S2.len
  have e3 := S3.len
  refine impl_Score_clone.call ((Mem.start h).alc fun g1 h1 x1 M => M.alc fun g3 h2 x2 M => ?_)
  have M := M.cnt (W := (g1, T_impl_Score, ⟨scC y1 y2 y3 b1 l1 c1 b2 l2 c2 b3 l3 c3⟩) :: [(g3, T_impl_Score, ⟨Z_impl_Score⟩)]) (fun p => by simp only [cnt_app, cnt_cons, cnt_nil] at *; omega)
  have P : RdP rScore h2 ⟨g1, 0, none⟩ s := M.rdp .here (rScore.ext M.ext R0)
  refine o_l (M.cell .here 3) (o_l (M.cell .here 4) (o_l (M.cell .here 5) ?_))
  refine (Clone_f32_c (S1.ext M.ext) (by omega)).mono ?_
  rintro _ h3 ⟨b1', c1', B1, rfl, O1, N⟩
  refine as_l (P.pin2 (by decide) N.ext (P.pin2 (by decide) N.ext ?_))
  have x3 := N.ext
  have M := M.join N
  refine (Clone_Instrument_c (S2.ext M.ext) (by omega)).mono ?_
  rintro _ h4 ⟨b2', c2', B2, rfl, O2, N⟩
  refine as_l (P.pin2 (by decide) (x3.trans N.ext) ?_)
  have M := M.join N
  refine (Clone_Event_c (S3.ext M.ext) (by omega)).mono ?_
  rintro _ h5 ⟨b3', c3', B3, rfl, O3, N⟩
  refine as_l ?_
  have M := (M.join N).cnt (W := (g1, T_impl_Score, ⟨scC y1 y2 y3 b1 l1 c1 b2 l2 c2 b3 l3 c3⟩) :: (B1 ++ (B2 ++ (B3 ++ [(g3, T_impl_Score, ⟨Z_impl_Score⟩)])))) (fun p => by simp only [cnt_app, cnt_cons, cnt_nil] at *; omega)
  refine M.st1 .here (by show 3 < 6; decide) .here fun h6 M => M.st1 .here (by show 4 < 6; decide) .here fun h7 M => M.st1 .here (by show 5 < 6; decide) .here fun h8 M => ?_
  have M : Mem h h8 ((g1, T_impl_Score, ⟨scC y1 y2 y3 b1' l1 c1' b2' l2 c2' b3' l3 c3'⟩) :: (B1 ++ (B2 ++ (B3 ++ [(g3, T_impl_Score, ⟨Z_impl_Score⟩)])))) := M
  refine M.lda0 .here rfl ?_
  have M := M.cnt (W := (g3, T_impl_Score, ⟨Z_impl_Score⟩) :: (B1 ++ (B2 ++ B3))) (fun p => by simp only [cnt_app, cnt_cons, cnt_nil] at *; omega)
  exact M.sta0 .here rfl sc_one rfl .here fun h13 M => M.lda0 .here rfl ⟨_, B1 ++ (B2 ++ B3), rfl, score_ow F1 F2 F3 O1 O2 O3, M.drop⟩
end
end Go.Sx
