/- Scores copied. -/
import Derived.Test.YtnhcoeogejgidacGreatDoorLk32
import Derived.Test.YtnhcoeogejgidacGreatDoorLk21
import Derived.Test.YtnhcoeogejgidacGreatDoorLk24
import Derived.Test.YtnhcoeogejgidacGreatDoorLks
import Derived.Test.YtnhcoeogejgidacGreatDoorTab
set_option linter.unusedVariables false
set_option linter.unusedSimpArgs false
namespace Go.Sx
open Go.Proofs
set_option maxRecDepth 100000
set_option maxHeartbeats 1000000

theorem flat_Instrument : Flat rInstrument := flat_via (flat_seq flat_S (flat_seq (flat_I _) (flat_seq (flat_F _) (flat_seq (flat_F _) (flat_F _)))))
theorem ins_sz : 0 < rInstrument.sz := by decide
/-- A score's cells. -/
def scC (y1 y2 y3 : Nat) (b1 : Option Addr) (l1 c1 : Nat) (b2 : Option Addr) (l2 c2 : Nat) (b3 : Option Addr) (l3 c3 : Nat) : List Value := [.float .f32 y1, .float .f32 y2, .float .f32 y3, .slice b1 l1 c1, .slice b2 l2 c2, .slice b3 l3 c3]
section
variable {h : Heap}
theorem score_cells {cs : Array Value} {s : GScore} (R : rScore.rd h cs.toList s) : ∃ y1 y2 y3 b1 l1 c1 b2 l2 c2 b3 l3 c3, cs = ⟨scC y1 y2 y3 b1 l1 c1 b2 l2 c2 b3 l3 c3⟩ ∧ FW .f32 y1 s.Rate ∧ FW .f32 y2 s.Tuning.Base ∧ FW .f32 y3 s.Tuning.Octave ∧
    SlR (rF .f32) h b1 l1 c1 s.Tuning.Degrees ∧ SlR rInstrument h b2 l2 c2 s.Instruments ∧ SlR rEvent h b3 l3 c3 s.Events := by
  obtain ⟨v1, r1, e1, ⟨y1, rfl, F1⟩, vT, r2, rfl, ⟨v2, r3, rfl, ⟨y2, rfl, F2⟩, v3, r4, rfl, ⟨y3, rfl, F3⟩, b1, l1, c1, rfl, S1⟩, v5, v6, rfl, ⟨b2, l2, c2, rfl, S2⟩, b3, l3, c3, rfl, S3⟩ := R
  exact ⟨y1, y2, y3, b1, l1, c1, b2, l2, c2, b3, l3, c3, by cases cs; simpa [scC] using e1, F1, F2, F3, S1, S2, S3⟩
theorem score_ow {s : GScore} {y1 y2 y3 : Nat} {b1 b2 b3 : Option Addr} {l1 c1 l2 c2 l3 c3 : Nat} {B1 B2 B3 : List Blk} (F1 : FW .f32 y1 s.Rate) (F2 : FW .f32 y2 s.Tuning.Base) (F3 : FW .f32 y3 s.Tuning.Octave)
    (O1 : SlO T_float32 (rF .f32) B1 b1 l1 c1 s.Tuning.Degrees) (O2 : SlO T_impl_Instrument rInstrument B2 b2 l2 c2 s.Instruments) (O3 : SlO T_impl_Event rEvent B3 b3 l3 c3 s.Events) : rScore.ow (B1 ++ (B2 ++ B3)) (scC y1 y2 y3 b1 l1 c1 b2 l2 c2 b3 l3 c3) s :=
  ⟨[], B1 ++ (B2 ++ B3), [.float .f32 y1], _, rfl, rfl, ⟨rfl, y1, rfl, F1⟩, B1, B2 ++ B3, [.float .f32 y2, .float .f32 y3, .slice b1 l1 c1], [.slice b2 l2 c2, .slice b3 l3 c3], rfl, rfl,
    ⟨[], B1, [.float .f32 y2], [.float .f32 y3, .slice b1 l1 c1], rfl, rfl, ⟨rfl, y2, rfl, F2⟩, [], B1, [.float .f32 y3], [.slice b1 l1 c1], rfl, rfl, ⟨rfl, y3, rfl, F3⟩, b1, l1, c1, rfl, O1⟩,
    B2, B3, [.slice b2 l2 c2], [.slice b3 l3 c3], rfl, rfl, ⟨b2, l2, c2, rfl, O2⟩, b3, l3, c3, rfl, O3⟩
theorem sc_one {y1 y2 y3 : Nat} {b1 b2 b3 : Option Addr} {l1 c1 l2 c2 l3 c3 : Nat} : ∀ v ∈ (⟨scC y1 y2 y3 b1 l1 c1 b2 l2 c2 b3 l3 c3⟩ : Array Value).toList, v.oneCell' = true := fun v hv => by
  simp only [scC, List.mem_cons, List.mem_nil_iff, or_false] at hv
  rcases hv with rfl | rfl | rfl | rfl | rfl | rfl <;> rfl
theorem slr_nil {α : Type} {r : Rep α} {l c : Nat} {xs : List α} (hz : 0 < r.sz) (S : SlR r h none l c xs) : xs = [] ∧ l = 0 := by
  obtain ⟨h1, h2, h3, ws, C, R⟩ := S
  have hw : ws = [] := by
    cases ws with
    | nil => rfl
    | cons w ws => obtain ⟨a, e, _⟩ := C 0 (by simp); cases e
  subst hw
  have hx : xs.length * r.sz = 0 := by rw [← R.len]; rfl
  have hl : xs.length = 0 := by
    rcases Nat.mul_eq_zero.1 hx with h | h <;> omega
  exact ⟨List.eq_nil_of_length_eq_zero hl, by omega⟩
theorem Clone_Instrument_c {b : Option Addr} {l c : Nat} {xs : List GInstrument} (S : SlR rInstrument h b l c xs) (hl : l ≤ 1048576) :
    CALL prg f_slices_Clone_sl_impl_Instrument_impl_Instrument #[.slice b l c] (fun u h' => ∃ b' c' B, u = .slice b' l c' ∧ SlO T_impl_Instrument rInstrument B b' l c' xs ∧ Mem h h' B) h := by
  refine slices_Clone_sl_impl_Instrument_impl_Instrument.call (cmp_nil U_sl_impl_Instrument (br (fun hb => ?_) fun hb => ?_))
  · obtain rfl : b = none := by simpa using hb
    obtain ⟨rfl, rfl⟩ := slr_nil ins_sz S
    exact ⟨none, 0, [], rfl, SlO.nil, Mem.start h⟩
  · exact (Mem.start h).alc fun g h1 x1 M => append_copy E_sl_impl_Instrument ins_sz flat_Instrument (S.ext x1) M (by omega) fun b' c' h' B' O' M' => as_l ⟨b', c', B', rfl, O', by simpa using M'⟩
theorem Clone_Event_c {b : Option Addr} {l c : Nat} {xs : List GEvent} (S : SlR rEvent h b l c xs) (hl : l ≤ 1048576) :
    CALL prg f_slices_Clone_sl_impl_Event_impl_Event #[.slice b l c] (fun u h' => ∃ b' c' B, u = .slice b' l c' ∧ SlO T_impl_Event rEvent B b' l c' xs ∧ Mem h h' B) h := by
  refine slices_Clone_sl_impl_Event_impl_Event.call (cmp_nil U_sl_impl_Event (br (fun hb => ?_) fun hb => ?_))
  · obtain rfl : b = none := by simpa using hb
    obtain ⟨rfl, rfl⟩ := slr_nil ev_sz S
    exact ⟨none, 0, [], rfl, SlO.nil, Mem.start h⟩
  · exact (Mem.start h).alc fun g h1 x1 M => append_copy E_sl_impl_Event ev_sz flat_Event (S.ext x1) M (by omega) fun b' c' h' B' O' M' => as_l ⟨b', c', B', rfl, O', by simpa using M'⟩
theorem score_small {s : GScore} (h : s.ok = true) : s.Tuning.Degrees.length ≤ 31 ∧ s.Instruments.length ≤ 6 ∧ s.Events.length ≤ 128 := by
  have G := score_ev h
  have g1 := G.even
  have g2 := G.most
  unfold GScore.ok at h
  simp only [Bool.and_eq_true, decide_eq_true_eq] at h
  have ht := h.1.1.2
  unfold GTuning.ok at ht
  simp only [Bool.and_eq_true, inR, decide_eq_true_eq] at ht
  exact ⟨by omega, h.1.2.1, by omega⟩
theorem l08Copy_c {q : Addr} {s : GScore} (R : RdP rScore h q s) (hs : s.ok = true) : CALL prg f_spec_l08Copy #[.pointer (some q)] (fun u h' => NewR rScore h h' u s) h := by
  obtain ⟨z1, z2, z3⟩ := score_small hs
  refine spec_l08Copy.call ((Mem.start h).alc fun g1 h1 x1 M => (R.ext M.ext).lda1 rfl fun cs Rc => ?_)
  obtain ⟨y1, y2, y3, b1, l1, c1, b2, l2, c2, b3, l3, c3, rfl, F1, F2, F3, S1, S2, S3⟩ := score_cells Rc
  refine M.alc fun g4 h2 x2 M => M.sta0 .here rfl sc_one rfl .here fun h3 M => M.alc fun g7 h4 x4 M => ?_
  have A : ∀ {hh : Heap}, Ext h hh → RdP rScore hh q s := fun e => R.ext e
  refine (A M.ext).oL fun b lA c S => append_copy E_sl_float32 (by decide) (flat_F _) S M (by have := S.len; omega) fun b1' c1' h5 B1 O1 M => as_l ?_
  have e1 := S.len
  have M := M.cnt (W := (g4, T_impl_Score, ⟨scC y1 y2 y3 b1 l1 c1 b2 l2 c2 b3 l3 c3⟩) :: (B1 ++ [(g1, T_impl_Score, ⟨Z_impl_Score⟩)])) (fun p => by simp only [cnt_app, cnt_cons, cnt_nil] at *; omega)
  refine M.st1 .here (by show 3 < 6; decide) .here fun h6 M => ?_
  have M : Mem h h6 ((g4, T_impl_Score, ⟨scC y1 y2 y3 b1' lA c1' b2 l2 c2 b3 l3 c3⟩) :: (B1 ++ [(g1, T_impl_Score, ⟨Z_impl_Score⟩)])) := M
  refine M.alc fun g8 h7 x7 M => (A M.ext).oL fun b lB c S => append_copy E_sl_impl_Instrument ins_sz flat_Instrument S M (by have := S.len; omega) fun b2' c2' h8 B2 O2 M => as_l ?_
  have e2 := S.len
  have M := M.cnt (W := (g4, T_impl_Score, ⟨scC y1 y2 y3 b1' lA c1' b2 l2 c2 b3 l3 c3⟩) :: (B2 ++ (B1 ++ [(g1, T_impl_Score, ⟨Z_impl_Score⟩)]))) (fun p => by simp only [cnt_app, cnt_cons, cnt_nil] at *; omega)
  refine M.st1 .here (by show 4 < 6; decide) .here fun h9 M => ?_
  have M : Mem h h9 ((g4, T_impl_Score, ⟨scC y1 y2 y3 b1' lA c1' b2' lB c2' b3 l3 c3⟩) :: (B2 ++ (B1 ++ [(g1, T_impl_Score, ⟨Z_impl_Score⟩)]))) := M
  refine M.alc fun g9 h10 x10 M => (A M.ext).oL fun b lC c S => append_copy E_sl_impl_Event ev_sz flat_Event S M (by have := S.len; omega) fun b3' c3' h11 B3 O3 M => as_l ?_
  have e3 := S.len
  have M := M.cnt (W := (g4, T_impl_Score, ⟨scC y1 y2 y3 b1' lA c1' b2' lB c2' b3 l3 c3⟩) :: (B3 ++ (B2 ++ (B1 ++ [(g1, T_impl_Score, ⟨Z_impl_Score⟩)])))) (fun p => by simp only [cnt_app, cnt_cons, cnt_nil] at *; omega)
  refine M.st1 .here (by show 5 < 6; decide) .here fun h12 M => ?_
  have M : Mem h h12 ((g4, T_impl_Score, ⟨scC y1 y2 y3 b1' lA c1' b2' lB c2' b3' lC c3'⟩) :: (B3 ++ (B2 ++ (B1 ++ [(g1, T_impl_Score, ⟨Z_impl_Score⟩)])))) := M
  refine M.lda0 .here rfl ?_
  have M := M.cnt (W := (g1, T_impl_Score, ⟨Z_impl_Score⟩) :: (B1 ++ (B2 ++ B3))) (fun p => by simp only [cnt_app, cnt_cons, cnt_nil] at *; omega)
  exact M.sta0 .here rfl sc_one rfl .here fun h13 M => M.lda0 .here rfl ⟨_, B1 ++ (B2 ++ B3), rfl, score_ow F1 F2 F3 O1 O2 O3, M.drop⟩
theorem Score_clone_c {cs : Array Value} {s : GScore} (R0 : rScore.rd h cs.toList s) (hs : s.ok = true) : CALL prg f_impl_Score_clone #[.agg cs] (fun u h' => NewR rScore h h' u s) h := by
  obtain ⟨z1, z2, z3⟩ := score_small hs
  obtain ⟨y1, y2, y3, b1, l1, c1, b2, l2, c2, b3, l3, c3, rfl, F1, F2, F3, S1, S2, S3⟩ := score_cells R0
  have e1 := S1.len
  have e2 := S2.len
  have e3 := S3.len
  refine impl_Score_clone.call ((Mem.start h).alc fun g1 h1 x1 M => M.alc fun g3 h2 x2 M => ?_)
  have M := M.cnt (W := (g1, T_impl_Score, ⟨scC y1 y2 y3 b1 l1 c1 b2 l2 c2 b3 l3 c3⟩) :: [(g3, T_impl_Score, ⟨Z_impl_Score⟩)]) (fun p => by simp only [cnt_app, cnt_cons, cnt_nil] at *; omega)
  have P : RdP rScore h2 ⟨g1, 0, none⟩ s := M.rdp .here (rScore.ext M.ext R0)
  refine o_l (M.cell .here 3) (o_l (M.cell .here 4) (o_l (M.cell .here 5) ?_))
  refine (Clone_f32_c (S1.ext M.ext) (by omega)).mono ?_
  rintro _ h3 ⟨b1', c1', B1, rfl, O1, N⟩
  refine as_l (P.pin2 (by decide) N.ext (P.pin2 (by decide) N.ext ?_))
  have x3 := N.ext
  have M := M.join N
  refine (Clone_Instrument_c (S2.ext M.ext) (by omega)).mono ?_
  rintro _ h4 ⟨b2', c2', B2, rfl, O2, N⟩
  refine as_l (P.pin2 (by decide) (x3.trans N.ext) ?_)
  have M := M.join N
  refine (Clone_Event_c (S3.ext M.ext) (by omega)).mono ?_
  rintro _ h5 ⟨b3', c3', B3, rfl, O3, N⟩
  refine as_l ?_
  have M := (M.join N).cnt (W := (g1, T_impl_Score, ⟨scC y1 y2 y3 b1 l1 c1 b2 l2 c2 b3 l3 c3⟩) :: (B1 ++ (B2 ++ (B3 ++ [(g3, T_impl_Score, ⟨Z_impl_Score⟩)])))) (fun p => by simp only [cnt_app, cnt_cons, cnt_nil] at *; omega)
  refine M.st1 .here (by show 3 < 6; decide) .here fun h6 M => M.st1 .here (by show 4 < 6; decide) .here fun h7 M => M.st1 .here (by show 5 < 6; decide) .here fun h8 M => ?_
  have M : Mem h h8 ((g1, T_impl_Score, ⟨scC y1 y2 y3 b1' l1 c1' b2' l2 c2' b3' l3 c3'⟩) :: (B1 ++ (B2 ++ (B3 ++ [(g3, T_impl_Score, ⟨Z_impl_Score⟩)])))) := M
  refine M.lda0 .here rfl ?_
  have M := M.cnt (W := (g3, T_impl_Score, ⟨Z_impl_Score⟩) :: (B1 ++ (B2 ++ B3))) (fun p => by simp only [cnt_app, cnt_cons, cnt_nil] at *; omega)
  exact M.sta0 .here rfl sc_one rfl .here fun h13 M => M.lda0 .here rfl ⟨_, B1 ++ (B2 ++ B3), rfl, score_ow F1 F2 F3 O1 O2 O3, M.drop⟩
end
end Go.Sx
/- What functions of this seat's program compute, told in words (a predicate over heaps for each), and the proofs that the words are no more than the code's own weakest precondition. -/
namespace Go.Sx
open Go.Proofs
set_option linter.unusedVariables false
set_option maxRecDepth 100000

def spec_l08Notes.B3 (Post : Value → Heap → Prop) (N3 : (Addr × Option Addr × Nat × Nat × Int) → Heap → Prop) : Addr × Option Addr × Nat × Nat × Int → Heap → Prop
  | (s_0, out_3b, out_3l, out_3c, i_4), h =>
    oL (cell h (Addr.add s_0 5)) fun l6b l6l l6c =>
    BIF ((decide (i_4 < (l6l : Int)))) (
    oL (cell h (Addr.add s_0 5)) fun l9b l9l l9c =>
    IDXS l9b i_4 l9l fun p10 =>
    LDA 6 h ((Addr.add p10 ((Int.toNat i_4) * 6))) fun a11 =>
    ALC ⟨Z_impl_Event⟩ T_impl_Event (fun g12 h13 =>
    STA 6 h13 ⟨g12, 0, none⟩ a11 fun h14 =>
    oI .i64 (cell h14 ⟨g12, 1, none⟩) fun n15 =>
    BIF (n15 == (2 : Int)) (
    oI .i64 (cell h14 ⟨g12, 2, none⟩) fun n16 =>
    oI .i64 (cell h14 ⟨g12, 0, none⟩) fun n17 =>
    oI .i64 (cell h14 ⟨g12, 3, none⟩) fun n18 =>
    oI .i64 (cell h14 ⟨g12, 4, none⟩) fun n19 =>
    oF .f32 (cell h14 ⟨g12, 5, none⟩) fun r20 =>
    IDXS out_3b n16 out_3l fun p21 =>
    STA 5 h14 ((Addr.add p21 ((Int.toNat n16) * 5))) (⟨[.int .i64 n17, .int .i64 (0 : Int), .int .i64 n18, .int .i64 n19, .float .f32 r20]⟩ : Array Value) fun h22 =>
    N3 (s_0, out_3b, out_3l, out_3c, ((IntKind.i64.wrap (i_4 + (1 : Int))))) h22) (
    oI .i64 (cell h14 ⟨g12, 2, none⟩) fun n23 =>
    oI .i64 (cell h14 ⟨g12, 0, none⟩) fun n24 =>
    IDXS out_3b n23 out_3l fun p25 =>
    ST1 h14 ((Addr.add ((Addr.add p25 ((Int.toNat n23) * 5))) 1)) (.int .i64 n24) fun h26 =>
    N3 (s_0, out_3b, out_3l, out_3c, ((IntKind.i64.wrap (i_4 + (1 : Int))))) h26)) h) (
    Post (.slice out_3b out_3l out_3c) h)
def spec_l08Notes.g3 (fr : Frame) : Addr × Option Addr × Nat × Nat × Int := ((gP (lget fr 0)), (gLb (lget fr 3)), (gLl (lget fr 3)), (gLc (lget fr 3)), (gI (lget fr 4)))
def spec_l08Notes.l3 (Post : Value → Heap → Prop) : Frame → Heap → Prop := fun fr h => GRD (shape (kds 53 [(0, .p), (3, .l), (4, .i .i64)]) fr) (LOOP (spec_l08Notes.B3 Post) (spec_l08Notes.g3 fr) h)
def spec_l08Notes.S (s_0 : Addr) (Post : Value → Heap → Prop) (h : Heap) : Prop :=
    oL (cell h (Addr.add s_0 5)) fun l1b l1l l1c =>
    NZ (2 : Int) <|
    MKS ti_spec_l08Note T_spec_l08Note ((IntKind.i64.wrap (Int.tdiv (l1l : Int) (2 : Int)))) ((IntKind.i64.wrap (Int.tdiv (l1l : Int) (2 : Int)))) (fun g4 h5 =>
    LOOP (spec_l08Notes.B3 Post) (s_0, (some ⟨g4, 0, none⟩), ((Int.toNat ((IntKind.i64.wrap (Int.tdiv (l1l : Int) (2 : Int)))))), ((Int.toNat ((IntKind.i64.wrap (Int.tdiv (l1l : Int) (2 : Int)))))), (0 : Int)) h5) h
noncomputable def spec_l08Notes.code : Code := (Tryz.f31.body).getD .skip
theorem spec_l08Notes.call {s_0 : Addr} {Post : Value → Heap → Prop} {h : Heap} (H : spec_l08Notes.S s_0 Post h) : CALL prg f_spec_l08Notes #[.pointer (some s_0)] Post h :=
  fn_call tau_ok mixed (c := spec_l08Notes.code) (Λ := lookL [(1000003, spec_l08Notes.l3 Post)]) Tryz.func31 (by kernel_rfl) (by kernel_rfl)
    (Rq.seq (by kernel_rfl) (Rq.free (by kernel_rfl)) (Rq.seq (by kernel_rfl) (Rq.free (by kernel_rfl)) (Rq.seq (by kernel_rfl) (Rq.seq (by kernel_rfl) (Rq.free (by kernel_rfl)) (Rq.block (Rq.loop (spec_l08Notes.l3 Post) (by kernel_rfl) (segL (g := spec_l08Notes.g3) tau_ok mixed (Λ := fun N3 => lookL []) (fun _ _ _ => by kernel_rfl) (fun N3 => (Rq.free (by kernel_rfl))))))) (Rq.free (by kernel_rfl)))))
    (Eq.mp (by kernel_rfl) H)

def spec_l08Compiled.J17 (N12 : (Option Addr × Nat × Nat × Option Addr × Nat × Nat × Int) → Heap → Prop) (N15 : (Option Addr × Nat × Nat × Option Addr × Nat × Nat × Int × Int) → Heap → Prop) (Post : Value → Heap → Prop) (out_3b : Option Addr) (out_3l : Nat) (out_3c : Nat) (keys_4b : Option Addr) (keys_4l : Nat) (keys_4c : Nat) (i_9 : Int) (k_10 : Int) (h : Heap) : Prop :=
    IDXS out_3b k_10 out_3l fun p52 =>
    LDA 6 h ((Addr.add p52 ((Int.toNat k_10) * 6))) fun a53 =>
    ALC ⟨Z_impl_Event⟩ T_impl_Event (fun g54 h55 =>
    STA 6 h55 ⟨g54, 0, none⟩ a53 fun h56 =>
    IDXS out_3b ((IntKind.i64.wrap (k_10 - (1 : Int)))) out_3l fun p57 =>
    LDA 6 h56 ((Addr.add p57 ((Int.toNat ((IntKind.i64.wrap (k_10 - (1 : Int))))) * 6))) fun a58 =>
    IDXS out_3b k_10 out_3l fun p59 =>
    STA 6 h56 ((Addr.add p59 ((Int.toNat k_10) * 6))) a58 fun h60 =>
    LDA 6 h60 ⟨g54, 0, none⟩ fun a61 =>
    IDXS out_3b ((IntKind.i64.wrap (k_10 - (1 : Int)))) out_3l fun p62 =>
    STA 6 h60 ((Addr.add p62 ((Int.toNat ((IntKind.i64.wrap (k_10 - (1 : Int))))) * 6))) a61 fun h63 =>
    IDXS keys_4b k_10 keys_4l fun p64 =>
    LDA 4 h63 ((Addr.add p64 ((Int.toNat k_10) * 4))) fun a65 =>
    ALC ⟨Z_4_int64⟩ T_4_int64 (fun g66 h67 =>
    STA 4 h67 ⟨g66, 0, none⟩ a65 fun h68 =>
    IDXS keys_4b ((IntKind.i64.wrap (k_10 - (1 : Int)))) keys_4l fun p69 =>
    LDA 4 h68 ((Addr.add p69 ((Int.toNat ((IntKind.i64.wrap (k_10 - (1 : Int))))) * 4))) fun a70 =>
    IDXS keys_4b k_10 keys_4l fun p71 =>
    STA 4 h68 ((Addr.add p71 ((Int.toNat k_10) * 4))) a70 fun h72 =>
    LDA 4 h72 ⟨g66, 0, none⟩ fun a73 =>
    IDXS keys_4b ((IntKind.i64.wrap (k_10 - (1 : Int)))) keys_4l fun p74 =>
    STA 4 h72 ((Addr.add p74 ((Int.toNat ((IntKind.i64.wrap (k_10 - (1 : Int))))) * 4))) a73 fun h75 =>
    N15 (out_3b, out_3l, out_3c, keys_4b, keys_4l, keys_4c, i_9, ((IntKind.i64.wrap (k_10 - (1 : Int))))) h75) h63) h
def spec_l08Compiled.j17 (N12 : (Option Addr × Nat × Nat × Option Addr × Nat × Nat × Int) → Heap → Prop) (N15 : (Option Addr × Nat × Nat × Option Addr × Nat × Nat × Int × Int) → Heap → Prop) (Post : Value → Heap → Prop) : Frame → Heap → Prop := fun fr h => GRD (shape (kds 111 [(3, .l), (4, .l), (9, .i .i64), (10, .i .i64)]) fr) (spec_l08Compiled.J17 N12 N15 Post (gLb (lget fr 3)) (gLl (lget fr 3)) (gLc (lget fr 3)) (gLb (lget fr 4)) (gLl (lget fr 4)) (gLc (lget fr 4)) (gI (lget fr 9)) (gI (lget fr 10)) h)
def spec_l08Compiled.B15 (N12 : (Option Addr × Nat × Nat × Option Addr × Nat × Nat × Int) → Heap → Prop) (Post : Value → Heap → Prop) (N15 : (Option Addr × Nat × Nat × Option Addr × Nat × Nat × Int × Int) → Heap → Prop) : Option Addr × Nat × Nat × Option Addr × Nat × Nat × Int × Int → Heap → Prop
  | (out_3b, out_3l, out_3c, keys_4b, keys_4l, keys_4c, i_9, k_10), h =>
    BIF ((decide ((0 : Int) < k_10))) (
    IDXS keys_4b k_10 keys_4l fun p45 =>
    LDA 4 h ((Addr.add p45 ((Int.toNat k_10) * 4))) fun a46 =>
    IDXS keys_4b ((IntKind.i64.wrap (k_10 - (1 : Int)))) keys_4l fun p47 =>
    LDA 4 h ((Addr.add p47 ((Int.toNat ((IntKind.i64.wrap (k_10 - (1 : Int))))) * 4))) fun a48 =>
    CALL prg f_spec_l08Less #[.agg a46, .agg a48] (fun q49 h50 =>
    asB q49 fun b51 =>
    BIF b51 (
    spec_l08Compiled.J17 N12 N15 Post out_3b out_3l out_3c keys_4b keys_4l keys_4c i_9 k_10 h50) (
    N12 (out_3b, out_3l, out_3c, keys_4b, keys_4l, keys_4c, ((IntKind.i64.wrap (i_9 + (1 : Int))))) h50)) h) (
    N12 (out_3b, out_3l, out_3c, keys_4b, keys_4l, keys_4c, ((IntKind.i64.wrap (i_9 + (1 : Int))))) h)
def spec_l08Compiled.g15 (fr : Frame) : Option Addr × Nat × Nat × Option Addr × Nat × Nat × Int × Int := ((gLb (lget fr 3)), (gLl (lget fr 3)), (gLc (lget fr 3)), (gLb (lget fr 4)), (gLl (lget fr 4)), (gLc (lget fr 4)), (gI (lget fr 9)), (gI (lget fr 10)))
def spec_l08Compiled.l15 (N12 : (Option Addr × Nat × Nat × Option Addr × Nat × Nat × Int) → Heap → Prop) (Post : Value → Heap → Prop) : Frame → Heap → Prop := fun fr h => GRD (shape (kds 111 [(3, .l), (4, .l), (9, .i .i64), (10, .i .i64)]) fr) (LOOP (spec_l08Compiled.B15 N12 Post) (spec_l08Compiled.g15 fr) h)
def spec_l08Compiled.B12 (Post : Value → Heap → Prop) (N12 : (Option Addr × Nat × Nat × Option Addr × Nat × Nat × Int) → Heap → Prop) : Option Addr × Nat × Nat × Option Addr × Nat × Nat × Int → Heap → Prop
  | (out_3b, out_3l, out_3c, keys_4b, keys_4l, keys_4c, i_9), h =>
    BIF ((decide (i_9 < (out_3l : Int)))) (
    LOOP (spec_l08Compiled.B15 N12 Post) (out_3b, out_3l, out_3c, keys_4b, keys_4l, keys_4c, i_9, i_9) h) (
    Post (.slice out_3b out_3l out_3c) h)
def spec_l08Compiled.g12 (fr : Frame) : Option Addr × Nat × Nat × Option Addr × Nat × Nat × Int := ((gLb (lget fr 3)), (gLl (lget fr 3)), (gLc (lget fr 3)), (gLb (lget fr 4)), (gLl (lget fr 4)), (gLc (lget fr 4)), (gI (lget fr 9)))
def spec_l08Compiled.l12 (Post : Value → Heap → Prop) : Frame → Heap → Prop := fun fr h => GRD (shape (kds 111 [(3, .l), (4, .l), (9, .i .i64)]) fr) (LOOP (spec_l08Compiled.B12 Post) (spec_l08Compiled.g12 fr) h)
def spec_l08Compiled.B4 (Post : Value → Heap → Prop) (N4 : (Option Addr × Nat × Nat × Option Addr × Nat × Nat × Option Addr × Nat × Nat × Int) → Heap → Prop) : Option Addr × Nat × Nat × Option Addr × Nat × Nat × Option Addr × Nat × Nat × Int → Heap → Prop
  | (notes_0b, notes_0l, notes_0c, out_3b, out_3l, out_3c, keys_4b, keys_4l, keys_4c, i_5), h =>
    BIF ((decide (i_5 < (notes_0l : Int)))) (
    IDXS notes_0b i_5 notes_0l fun p7 =>
    LDA 5 h ((Addr.add p7 ((Int.toNat i_5) * 5))) fun a8 =>
    ALC ⟨Z_spec_l08Note⟩ T_spec_l08Note (fun g9 h10 =>
    STA 5 h10 ⟨g9, 0, none⟩ a8 fun h11 =>
    oI .i64 (cell h11 ⟨g9, 0, none⟩) fun n12 =>
    oI .i64 (cell h11 ⟨g9, 2, none⟩) fun n13 =>
    oI .i64 (cell h11 ⟨g9, 3, none⟩) fun n14 =>
    oF .f32 (cell h11 ⟨g9, 4, none⟩) fun r15 =>
    ALC ⟨Z_impl_Event⟩ T_impl_Event (fun g16 h17 =>
    STA 6 h17 ⟨g16, 0, none⟩ (⟨[.int .i64 n12, .int .i64 (2 : Int), .int .i64 i_5, .int .i64 n13, .int .i64 n14, .float .f32 r15]⟩ : Array Value) fun h18 =>
    oI .i64 (cell h18 ⟨g9, 1, none⟩) fun n19 =>
    ALC ⟨Z_impl_Event⟩ T_impl_Event (fun g20 h21 =>
    STA 6 h21 ⟨g20, 0, none⟩ (⟨[.int .i64 n19, .int .i64 (1 : Int), .int .i64 i_5, .int .i64 (0 : Int), .int .i64 (0 : Int), .float .f32 0]⟩ : Array Value) fun h22 =>
    LDA 6 h22 ⟨g16, 0, none⟩ fun a23 =>
    LDA 6 h22 ⟨g20, 0, none⟩ fun a24 =>
    SIZ (Array.size a23) 6 <|
    SIZ (Array.size a24) 6 <|
    ALC ⟨(splice 6 6 a24 (splice 0 6 a23 [.int .i64 (0 : Int), .int .i64 (0 : Int), .int .i64 (0 : Int), .int .i64 (0 : Int), .int .i64 (0 : Int), .float .f32 0, .int .i64 (0 : Int), .int .i64 (0 : Int), .int .i64 (0 : Int), .int .i64 (0 : Int), .int .i64 (0 : Int), .float .f32 0]))⟩ T_impl_Event (fun g25 h26 =>
    SEMV prg (Builtin.append_ #[T_sl_impl_Event, T_sl_impl_Event] T_sl_impl_Event #[.slice out_3b out_3l out_3c, .slice (some ⟨g25, 0, none⟩) 2 2]) (fun q27 h28 =>
    asL q27 fun l29b l29l l29c =>
    oI .i64 (cell h28 ⟨g9, 0, none⟩) fun n30 =>
    oI .i64 (cell h28 ⟨g9, 0, none⟩) fun n31 =>
    CALL prg f_spec_l08Key #[.pointer (some ⟨g16, 0, none⟩), .int .i64 n30] (fun q32 h33 =>
    asA q32 fun a34 =>
    PIN h28 ⟨g9, 0, none⟩ 1 h33 <|
    CALL prg f_spec_l08Key #[.pointer (some ⟨g20, 0, none⟩), .int .i64 n31] (fun q35 h36 =>
    asA q35 fun a37 =>
    SIZ (Array.size a34) 4 <|
    SIZ (Array.size a37) 4 <|
    ALC ⟨(splice 4 4 a37 (splice 0 4 a34 [.int .i64 (0 : Int), .int .i64 (0 : Int), .int .i64 (0 : Int), .int .i64 (0 : Int), .int .i64 (0 : Int), .int .i64 (0 : Int), .int .i64 (0 : Int), .int .i64 (0 : Int)]))⟩ T_4_int64 (fun g38 h39 =>
    SEMV prg (Builtin.append_ #[T_sl_4_int64, T_sl_4_int64] T_sl_4_int64 #[.slice keys_4b keys_4l keys_4c, .slice (some ⟨g38, 0, none⟩) 2 2]) (fun q40 h41 =>
    asL q40 fun l42b l42l l42c =>
    N4 (notes_0b, notes_0l, notes_0c, l29b, l29l, l29c, l42b, l42l, l42c, ((IntKind.i64.wrap (i_5 + (1 : Int))))) h41) h39) h36) h33) h28) h26) h22) h18) h11) h) (
    LOOP (spec_l08Compiled.B12 Post) (out_3b, out_3l, out_3c, keys_4b, keys_4l, keys_4c, (1 : Int)) h)
def spec_l08Compiled.g4 (fr : Frame) : Option Addr × Nat × Nat × Option Addr × Nat × Nat × Option Addr × Nat × Nat × Int := ((gLb (lget fr 0)), (gLl (lget fr 0)), (gLc (lget fr 0)), (gLb (lget fr 3)), (gLl (lget fr 3)), (gLc (lget fr 3)), (gLb (lget fr 4)), (gLl (lget fr 4)), (gLc (lget fr 4)), (gI (lget fr 5)))
def spec_l08Compiled.l4 (Post : Value → Heap → Prop) : Frame → Heap → Prop := fun fr h => GRD (shape (kds 111 [(0, .l), (3, .l), (4, .l), (5, .i .i64)]) fr) (LOOP (spec_l08Compiled.B4 Post) (spec_l08Compiled.g4 fr) h)
def spec_l08Compiled.S (notes_0b : Option Addr) (notes_0l notes_0c : Nat) (Post : Value → Heap → Prop) (h : Heap) : Prop :=
    ALC ⟨[]⟩ T_impl_Event (fun g1 h2 =>
    ALC ⟨[]⟩ T_4_int64 (fun g3 h4 =>
    LOOP (spec_l08Compiled.B4 Post) (notes_0b, notes_0l, notes_0c, (some ⟨g1, 0, none⟩), 0, 0, (some ⟨g3, 0, none⟩), 0, 0, (0 : Int)) h4) h2) h
noncomputable def spec_l08Compiled.code : Code := (Tryz.f36.body).getD .skip
theorem spec_l08Compiled.call {notes_0b : Option Addr} {notes_0l notes_0c : Nat} {Post : Value → Heap → Prop} {h : Heap} (H : spec_l08Compiled.S notes_0b notes_0l notes_0c Post h) : CALL prg f_spec_l08Compiled #[.slice notes_0b notes_0l notes_0c] Post h :=
  fn_call tau_ok mixed (c := spec_l08Compiled.code) (Λ := lookL [(1000004, spec_l08Compiled.l4 Post), (1000012, spec_l08Compiled.l12 Post)]) Tryz.func36 (by kernel_rfl) (by kernel_rfl)
    (Rq.seq (by kernel_rfl) (Rq.free (by kernel_rfl)) (Rq.seq (by kernel_rfl) (Rq.free (by kernel_rfl)) (Rq.seq (by kernel_rfl) (Rq.free (by kernel_rfl)) (Rq.seq (by kernel_rfl) (Rq.seq (by kernel_rfl) (Rq.free (by kernel_rfl)) (Rq.block (Rq.loop (spec_l08Compiled.l4 Post) (by kernel_rfl) (segL (g := spec_l08Compiled.g4) tau_ok mixed (Λ := fun N4 => lookL []) (fun _ _ _ => by kernel_rfl) (fun N4 => (Rq.free (by kernel_rfl))))))) (Rq.seq (by kernel_rfl) (Rq.seq (by kernel_rfl) (Rq.free (by kernel_rfl)) (Rq.block (Rq.loop (spec_l08Compiled.l12 Post) (by kernel_rfl) (segL (g := spec_l08Compiled.g12) tau_ok mixed (Λ := fun N12 => lookL [(1000015, spec_l08Compiled.l15 N12 Post)]) (fun _ _ _ => by kernel_rfl) (fun N12 => (Rq.seq (by kernel_rfl) (Rq.free (by kernel_rfl)) (Rq.seq (by kernel_rfl) (Rq.block (Rq.seq (by kernel_rfl) (Rq.free (by kernel_rfl)) (Rq.block (Rq.loop (spec_l08Compiled.l15 N12 Post) (by kernel_rfl) (segL (g := spec_l08Compiled.g15) tau_ok mixed (Λ := fun N15 => lookL [(17, spec_l08Compiled.j17 N12 N15 Post)]) (fun _ _ _ => by kernel_rfl) (fun N15 => (Rq.seqJ (spec_l08Compiled.j17 N12 N15 Post) (by kernel_rfl) (seg (fun _ _ => by kernel_rfl)) (Rq.free (by kernel_rfl))
(Rq.free (by kernel_rfl))))))))) (Rq.free (by kernel_rfl))))))))) (Rq.free (by kernel_rfl)))))))
    (Eq.mp (by kernel_rfl) H)

end Go.Sx
